/- What the law AreaRanks needs beyond the base: Wp, Sd, Ar2, Sf, Sg, Rq, Oq, Rr1, Rr2, Rr3, Lr. No conditions beyond those stated. -/
import Derived.Test.YthjmkmjojlfejaaGreatB02
import Derived.Test.YthjmkmjojlfejaaGreatB01
import Derived.Test.YthjmkmjojlfejaaGreatProg
import Derived.WalkKit
import Derived.Handy
import Derived.RangeFuncRecord
import Derived.Shelf.Abstract
import Derived.Deep.QuietTactic
import Derived.BigQuiet
import Derived.Laws.CopyOwn
import Derived.WalkSmall
import Derived.RangeFuncNested
import Derived.RangeFuncBound
import Derived.RangeFuncCalls
import Derived.RangeFuncLeaves
import Derived.Shelf.RegionOpen
import Derived.OwnWalkIn
import Derived.TacticsInMore
import Derived.LoopNIn
import Derived.LoopIn
import Derived.Maps.AppendAt
import Derived.Deep.Onto
import Derived.OrdersHeld
import Derived.Deep.LoopGhost
import Derived.Deep.WholeRow
import Derived.Deep.OwnRows
import Derived.StillTailTactics
import Derived.Great.Walk
import Derived.Great.BuildSlice
import Derived.WalkMore
import Derived.Deep.MidRow
import Derived.Deep.RegionHeld3
import Derived.Deep.DeepCutAuto
import Derived.Test.YthjmkmjojlfejaaGreatB07
import Derived.Test.YthjmkmjojlfejaaGreatB06
import Derived.Test.YthjmkmjojlfejaaGreatB05
import Derived.Test.YthjmkmjojlfejaaGreatB04
import Derived.Test.YthjmkmjojlfejaaGreatB03
import Derived.Shelf.Small.Bits
import Derived.Shelf.Small.Wraps
import Derived.Shelf.Strconv.Itoa0
import Derived.Shelf.Sort.Plain
import Derived.Shelf.Slices.Turned
import Derived.Ground.Names2Prog
import Derived.Shelf.Slices.CompactI
import Derived.Shelf.Slices.SearchI
import Derived.Shelf.Slices.Cells
import Derived.Shelf.Slices.In.SortNone
import Derived.Lib.OwnBridge
import Derived.Lib.SliceRun
import Derived.WalkSpells
import Derived.Deep.RegionWith
import Derived.Lib.AppendZerosOnto
import Derived.Deep.CutBlock
import Derived.IntWalk
import Derived.Test.YthjmkmjojlfejaaGreatB09
import Derived.Test.YthjmkmjojlfejaaGreatB10
import Derived.RangeFuncBox
import Derived.Scope
import Derived.Test.YthjmkmjojlfejaaGreatB13

namespace Go.Proofs.YthjmkmjojlfejaaGreat
open Go Go.RowKit Go.Shelf
def IntsOut (l : List Int) (base : Nat) (e : Ending) (w' : World) : Prop := ∃ v, e = .returned v ∧ w'.ownsRow base 3 1 v l.length (intsV l)
end Go.Proofs.YthjmkmjojlfejaaGreat

namespace Go.Proofs.YthjmkmjojlfejaaGreat
open Go Go.RowKit Go.Shelf
theorem within5_any (n a b : Int) (w : World) : Calls Tryz.prog 94 #[.int .i64 n, .int .i64 a, .int .i64 b] w fun e w' => e = .returned (.bool (inR n a b)) ∧ w = w' := by
  unfold inR
  go_enter Tryz.func94, Tryz.ntmps94
  go_wp2
  all_goals go_ret
  all_goals refine ⟨?_, rfl⟩
  all_goals simp [*]
  all_goals omega
set_option maxHeartbeats 1000000 in
theorem sum5_any (w : World) (a : Option Addr) (cap : Nat) (xs : List Int) (hl : xs.length ≤ 1000000) (h : IntsAt w a xs) (hb : ∀ k, k ≤ xs.length → -9000000000000000000 ≤ isum (xs.take k) ∧ isum (xs.take k) ≤ 9000000000000000000) :
    Calls Tryz.prog 96 #[.slice a xs.length cap] w fun e w' => e = .returned (.int .i64 (isum xs)) ∧ w' = w := by
  have H := hidE h
  have HB := hidE hb
  clear h hb
  go_enter Tryz.func96, Tryz.ntmps96
  go_wp2_with fail
  go_loopw [3, 4] (fun s i wr => ∃ k : Nat, k ≤ xs.length ∧ s = .int .i64 (isum (xs.take k)) ∧ i = .int .i64 k ∧ wr = w) (fun _ i _ => xs.length - (intOf i).toNat)
  case atStart => exact ⟨0, Nat.zero_le _, rfl, rfl, rfl⟩
  case round =>
    obtain ⟨k, hk, rfl, rfl, rfl⟩ := hrel
    have h1 := HB.out k hk
    by_cases hlt : k < xs.length
    · obtain ⟨b, off, rfl, hbl, hc⟩ := H.out.at hlt
      have h2 := HB.out (k + 1) hlt
      rw [isum_take _ hlt] at h2
      have HS := hidE (isum_take xs hlt)
      obtain ⟨q, hq⟩ : ∃ q, xs[k] = q := ⟨_, rfl⟩
      rw [hq] at hc HS h2
      clear hq
      obtain ⟨z, hz⟩ : ∃ z, isum (xs.take k) = z := ⟨_, rfl⟩
      rw [hz] at HS h1 h2 ⊢
      clear hz
      have hw : IntKind.i64.wrap (z + q) = z + q := IntWalk.i64_in _ (by omega)
      go_wp2_with fail
      go_roundw
      case rel => first | exact ⟨k + 1, by omega, by rw [HS.out], by go_num, rfl⟩ | exact ⟨k + 1, by omega, by rw [HS.out], by go_num, trivial⟩
      case measure => simp [intOf]; omega
    · obtain rfl : k = xs.length := by omega
      go_wp2_with fail
      go_ret
      exact ⟨by simp only [List.take_length]; rfl, rfl⟩
set_option maxHeartbeats 2000000 in
theorem shared_any (w : World) (total : Int) (a : Option Addr) (cap : Nat) (parts : List Int) (hl : parts.length ≤ 9223372036854775807) (h : IntsAt w a parts) :
    Calls Tryz.prog 93 #[.int .i64 total, .slice a parts.length cap] w fun e w' => e = .returned (.int .i64 (checkSharesP total parts)) ∧ w' = w := by
  obtain ⟨P, hP⟩ : ∃ P, checkSharesP total parts = P := ⟨_, rfl⟩
  rw [hP]
  have H := hidE h
  clear h
  by_cases h1 : 50 < parts.length
  · unfold checkSharesP at hP
    rw [if_pos h1] at hP
    subst hP
    have hd : decide ((parts.length : Int) > 50) = true := by simp; omega
    go_enter Tryz.func93, Tryz.ntmps93
    go_wp2_with fail
    go_ret
    exact ⟨rfl, rfl⟩
  · have hd : decide ((parts.length : Int) > 50) = false := by simp; omega
    have hd2 : decide (50 < parts.length) = false := by simp; omega
    have HI := hidE (fun W => within5_any total 0 100000000000 W)
    have HW := hidE (fun (x : Int) W => within5_any x 0 1000000 W)
    obtain ⟨r0, hr0⟩ : ∃ r, inR total 0 100000000000 = r := ⟨_, rfl⟩
    rw [hr0] at HI
    have HP := hidE hP
    have HR0 := hidE hr0
    clear hP hr0
    go_enter Tryz.func93, Tryz.ntmps93
    go_wp2_with fail
    refine (HI.out _).mono ?_
    rintro e w1 ⟨rfl, rfl⟩
    go_wp2_with fail
    go_loopw [5, 6] (fun b i wr => ∃ k : Nat, k ≤ parts.length ∧ b = .bool (r0 && (parts.take k).all fun v => inR v 0 1000000) ∧ i = .int .i64 k ∧ wr = w) (fun _ i _ => parts.length - (intOf i).toNat)
    case atStart => exact ⟨0, Nat.zero_le _, by simp, rfl, rfl⟩
    case round =>
      obtain ⟨k, hk, rfl, rfl, rfl⟩ := hrel
      by_cases hlt : k < parts.length
      · obtain ⟨b, off, rfl, hbl, hc⟩ := H.out.at hlt
        have HS := hidE (show ((parts.take (k + 1)).all fun v => inR v 0 1000000) = (((parts.take k).all fun v => inR v 0 1000000) && inR parts[k] 0 1000000) by
          rw [List.take_succ_eq_append_getElem hlt, List.all_append]; simp)
        obtain ⟨x, hx⟩ : ∃ x, parts[k] = x := ⟨_, rfl⟩
        rw [hx] at hc HS
        obtain ⟨q, hq⟩ : ∃ q, inR x 0 1000000 = q := ⟨_, rfl⟩
        have HC := hidE (fun W => HW.out x W)
        rw [hq] at HC HS
        obtain ⟨o, ho⟩ : ∃ o, ((parts.take k).all fun v => inR v 0 1000000) = o := ⟨_, rfl⟩
        rw [ho] at HS ⊢
        clear hx hq ho
        obtain ⟨t, ht⟩ : ∃ t, (r0 && o) = t := ⟨_, rfl⟩
        rw [ht]
        have HT := hidE (show (r0 && ((parts.take (k + 1)).all fun v => inR v 0 1000000)) = (t && q) by rw [HS.out, ← ht, Bool.and_assoc])
        clear ht
        cases t with
        | false =>
          go_wp2_with fail
          go_roundw
          case rel => first | exact ⟨k + 1, by omega, by rw [HT.out]; rfl, by go_num, rfl⟩ | exact ⟨k + 1, by omega, by rw [HT.out]; rfl, by go_num, trivial⟩
          case measure => simp [intOf]; omega
        | true =>
          go_wp2_with fail
          refine (HC.out _).mono ?_
          rintro e w2 ⟨rfl, rfl⟩
          go_wp2_with fail
          go_roundw
          case rel => first | exact ⟨k + 1, by omega, by rw [HT.out]; rfl, by go_num, rfl⟩ | exact ⟨k + 1, by omega, by rw [HT.out]; rfl, by go_num, trivial⟩
          case measure => simp [intOf]; omega
      · obtain rfl : k = parts.length := by omega
        rw [List.take_length]
        have HPE := hidE (show (if (r0 && parts.all fun v => inR v 0 1000000) = true then (if isum parts = 0 ∧ total ≠ 0 then 51 else 0) else 1) = P by
          rw [← HP.out]
          unfold checkSharesP
          rw [if_neg h1, HR0.out]
          cases r0 <;> cases (parts.all fun v => inR v 0 1000000) <;> simp)
        have HIM := hidE (show (r0 && parts.all fun v => inR v 0 1000000) = true → (0 ≤ total ∧ ∀ x ∈ parts, 0 ≤ x ∧ x ≤ 1000000) by
          intro hq
          rw [Bool.and_eq_true] at hq
          refine ⟨?_, fun x hx => ?_⟩
          · have := HR0.out
            rw [hq.1] at this
            unfold inR at this
            simp at this
            exact this.1
          · have := List.all_eq_true.1 hq.2 x hx
            unfold inR at this
            simpa using this)
        obtain ⟨t, ht⟩ : ∃ t, (r0 && parts.all fun v => inR v 0 1000000) = t := ⟨_, rfl⟩
        rw [ht] at HPE HIM ⊢
        clear ht HP HR0 HI HW
        cases t with
        | false =>
          have HP1 := hidE (show 1 = P from HPE.out)
          go_wp2_with fail
          go_ret
          exact ⟨by rw [← HP1.out]; rfl, rfl⟩
        | true =>
          obtain ⟨ht0, hp⟩ := HIM.out rfl
          have HSM := hidE (fun W hW => sum5_any W a cap parts (by omega) hW (fun k hk => by
            have := isum_take_bd (by decide) hp k
            omega))
          have HPQ := hidE (show (if isum parts = 0 ∧ total ≠ 0 then (51 : Int) else 0) = P from HPE.out)
          obtain ⟨s, hs⟩ : ∃ s, isum parts = s := ⟨_, rfl⟩
          rw [hs] at HSM HPQ
          clear hs HPE HIM hp
          by_cases hs0 : s = 0
          · subst hs0
            by_cases ht1 : total = 0
            · subst ht1
              have HP1 := hidE (show 0 = P by rw [← HPQ.out]; simp)
              go_wp2_with fail
              refine (HSM.out _ H.out).mono ?_
              rintro e w3 ⟨rfl, rfl⟩
              go_wp2_with fail
              go_ret
              exact ⟨by rw [← HP1.out]; rfl, rfl⟩
            · have HP1 := hidE (show 51 = P by rw [← HPQ.out, if_pos ⟨rfl, ht1⟩])
              have hd3 : decide (total > 0) = true := by simp; omega
              have hd4 : decide (0 < total) = true := by simp; omega
              go_wp2_with fail
              refine (HSM.out _ H.out).mono ?_
              rintro e w3 ⟨rfl, rfl⟩
              go_wp2_with fail
              go_ret
              exact ⟨by rw [← HP1.out]; rfl, rfl⟩
          · have HP1 := hidE (show 0 = P by rw [← HPQ.out, if_neg (fun h => hs0 h.1)])
            have hs1 : (s == 0) = false := by simpa using hs0
            go_wp2_with fail
            refine (HSM.out _ H.out).mono ?_
            rintro e w3 ⟨rfl, rfl⟩
            go_wp2_with fail
            go_ret
            exact ⟨by rw [← HP1.out]; rfl, rfl⟩
end Go.Proofs.YthjmkmjojlfejaaGreat

namespace Go.Proofs.YthjmkmjojlfejaaGreat
/-- One look at a remainder: the greatest so far. -/
def best1 (cut : List Int) (b : Int) (i : Nat) : Int := if 0 < cut.getD i 0 ∧ (b < 0 ∨ cut.getD b.toNat 0 < cut.getD i 0) then i else b
def bestTo (cut : List Int) (k : Nat) : Int := (List.range k).foldl (best1 cut) (-1)
theorem bestTo_succ (cut : List Int) (k : Nat) : bestTo cut (k + 1) = best1 cut (bestTo cut k) k := by
  unfold bestTo; rw [List.range_succ, List.foldl_append]; rfl
theorem bestTo_spec (cut : List Int) (k : Nat) : (bestTo cut k = -1 ∧ ∀ j, j < k → cut.getD j 0 ≤ 0) ∨
    ∃ i : Nat, i < k ∧ bestTo cut k = i ∧ 0 < cut.getD i 0 ∧ ∀ j, j < k → cut.getD j 0 < cut.getD i 0 ∨ (cut.getD j 0 = cut.getD i 0 ∧ i ≤ j) := by
  induction k with
  | zero => exact .inl ⟨rfl, fun j hj => by omega⟩
  | succ k ih =>
    rw [bestTo_succ]
    rcases ih with ⟨h1, h2⟩ | ⟨i, hi, h1, h2, h3⟩
    · rw [h1]
      unfold best1
      by_cases h : 0 < cut.getD k 0
      · rw [if_pos ⟨h, .inl (by omega)⟩]
        refine .inr ⟨k, by omega, rfl, h, fun j hj => ?_⟩
        by_cases hjk : j = k
        · subst hjk; exact .inr ⟨rfl, Nat.le_refl _⟩
        · have := h2 j (by omega); exact .inl (by omega)
      · rw [if_neg (fun q => h q.1)]
        refine .inl ⟨rfl, fun j hj => ?_⟩
        by_cases hjk : j = k
        · subst hjk; omega
        · exact h2 j (by omega)
    · rw [h1]
      unfold best1
      by_cases h : cut.getD i 0 < cut.getD k 0
      · rw [if_pos ⟨by omega, .inr (by rw [Int.toNat_natCast]; exact h)⟩]
        refine .inr ⟨k, by omega, rfl, by omega, fun j hj => ?_⟩
        by_cases hjk : j = k
        · subst hjk; exact .inr ⟨rfl, Nat.le_refl _⟩
        · rcases h3 j (by omega) with q | ⟨q, _⟩ <;> exact .inl (by omega)
      · rw [if_neg (fun q => q.2.elim (fun q => by omega) (fun q => h (by rw [Int.toNat_natCast] at q; exact q)))]
        refine .inr ⟨i, by omega, rfl, h2, fun j hj => ?_⟩
        by_cases hjk : j = k
        · subst hjk
          rcases Int.lt_or_eq_of_le (Int.not_lt.1 h) with q | q
          · exact .inl q
          · exact .inr ⟨q, by omega⟩
        · exact h3 j (by omega)
theorem bestTo_eq {cut : List Int} {k i : Nat} (hi : i < k) (h0 : 0 < cut.getD i 0) (h : ∀ j, j < k → cut.getD j 0 < cut.getD i 0 ∨ (cut.getD j 0 = cut.getD i 0 ∧ i ≤ j)) : bestTo cut k = i := by
  rcases bestTo_spec cut k with ⟨_, h2⟩ | ⟨m, hm, h1, _, h3⟩
  · have := h2 i hi; omega
  · rw [h1]
    have a := h m hm
    have b := h3 i hi
    omega
theorem zeros_len (l : List Nat) : ∀ c : List Int, (zeros l c).length = c.length := by
  induction l with
  | nil => intro c; rfl
  | cons i l ih => intro c; unfold zeros; rw [List.foldl_cons]; exact (ih _).trans (by simp)
theorem zeros_get : ∀ (l : List Nat) (c : List Int) (j : Nat), (zeros l c).getD j 0 = if j ∈ l then 0 else c.getD j 0
  | [], c, j => by simp [zeros]
  | i :: l, c, j => by
    have e : zeros (i :: l) c = zeros l (c.set i 0) := rfl
    rw [e, zeros_get l (c.set i 0) j]
    by_cases h : i = j
    · subst h
      by_cases h2 : i ∈ l
      · simp [h2]
      · simp only [h2, if_false, List.mem_cons, true_or, if_true]
        rw [List.getD_eq_getElem?_getD, List.getElem?_set]
        by_cases h3 : i < c.length <;> simp [h3]
    · have h' : ¬ j = i := fun e => h e.symm
      simp only [List.mem_cons, h', false_or]
      rw [List.getD_eq_getElem?_getD, List.getD_eq_getElem?_getD, List.getElem?_set_ne h]
theorem best_ord {total : Int} {parts : List Int} (h : ShOk total parts) {k : Nat} (hk : (k : Int) < shLeft total parts) (hkl : k < (remOrd (shRem total parts)).length) :
    bestTo (zeros ((remOrd (shRem total parts)).take k) (shRem total parts)) (zeros ((remOrd (shRem total parts)).take k) (shRem total parts)).length = (remOrd (shRem total parts))[k] := by
  have hkl' := hkl
  have hpos := ord_pos h hk hkl
  have hsorted := remOrd_sorted (shRem total parts)
  have hnd := remOrd_nodup (shRem total parts)
  have hmem : ∀ j, j < (shRem total parts).length → j ∈ remOrd (shRem total parts) := fun j hj => (remOrd_perm _).mem_iff.2 (List.mem_range.2 hj)
  have hlt := fun i (hi : i ∈ remOrd (shRem total parts)) => remOrd_lt hi
  obtain ⟨rest, hr⟩ : ∃ r, shRem total parts = r := ⟨_, rfl⟩
  simp only [hr] at *
  obtain ⟨ord, ho⟩ : ∃ o, remOrd rest = o := ⟨_, rfl⟩
  simp only [ho] at *
  have hnot : ∀ m (hm : m < ord.length), k ≤ m → ord[m] ∉ ord.take k := by
    intro m hm hkm hin
    obtain ⟨q, hq, e⟩ := List.getElem_of_mem hin
    rw [List.getElem_take] at e
    rw [List.length_take] at hq
    exact List.pairwise_iff_getElem.1 hnd q m (by omega) hm (by omega) e
  refine bestTo_eq ?_ ?_ fun j hj => ?_
  · rw [zeros_len]; exact hlt _ (List.getElem_mem hkl')
  · rw [zeros_get, if_neg (hnot k hkl' (Nat.le_refl _))]; exact hpos
  · rw [zeros_len] at hj
    rw [zeros_get, zeros_get, if_neg (hnot k hkl' (Nat.le_refl _))]
    by_cases hin : j ∈ ord.take k
    · rw [if_pos hin]; exact .inl hpos
    · rw [if_neg hin]
      obtain ⟨m, hm, e⟩ := List.getElem_of_mem (hmem j hj)
      have hkm : k ≤ m := by
        apply Nat.not_lt.1
        intro q
        exact hin (by rw [← e]; exact List.mem_take_iff_getElem.2 ⟨m, by omega, rfl⟩)
      rcases Nat.eq_or_lt_of_le hkm with q | q
      · subst q; rw [e]; exact .inr ⟨rfl, Nat.le_refl _⟩
      · have := List.pairwise_iff_getElem.1 hsorted k m hkl' hm q
        simp only [remLe, Bool.or_eq_true, Bool.and_eq_true, decide_eq_true_eq] at this
        rw [e] at this
        omega
end Go.Proofs.YthjmkmjojlfejaaGreat

namespace Go.Proofs.YthjmkmjojlfejaaGreat
open Go Go.RowKit Go.Shelf
theorem map_take_succ (f : Int → Int) (l : List Int) {k : Nat} (hk : k < l.length) : (l.take (k + 1)).map f = (l.take k).map f ++ [f l[k]] := by
  rw [List.take_succ_eq_append_getElem hk, List.map_append]; rfl
theorem zeros_succ (ord : List Nat) (c : List Int) {k : Nat} (hk : k < ord.length) : zeros (ord.take (k + 1)) c = (zeros (ord.take k) c).set ord[k] 0 := by
  rw [List.take_succ_eq_append_getElem hk]; unfold zeros; rw [List.foldl_append]; rfl
theorem intsV_set (l : List Int) (i : Nat) (v : Int) : (intsV l).set i (.int .i64 v) = intsV (l.set i v) := by simp [intsV, List.map_set]
theorem intsV_get {l : List Int} {i : Nat} (h : i < l.length) : (intsV l)[i]? = some (.int .i64 (l.getD i 0)) := by simp [intsV, h]
theorem own_later {w w' : World} {base : Nat} {e : TypeId} {k : Nat} {v : Value} {n : Nat} {cs : List Value} (h : w.ownsRow base e k v n cs) (hb : Below w.heap.size w w') : w'.ownsRow base e k v n cs := by
  rcases h with ⟨h1, h2 | ⟨gb, cp, cur, e1, e2, hh, e3⟩⟩
  · exact ⟨h1, .inl h2⟩
  · exact ⟨h1, .inr ⟨gb, cp, cur, e1, e2, blk_below hb (lt_of_block hh) hh, e3⟩⟩
set_option maxRecDepth 100000 in
set_option maxHeartbeats 16000000 in
theorem shares5_any (w : World) (total : Int) (a : Option Addr) (cap : Nat) (parts : List Int) (hl : parts.length ≤ 50) (h : IntsAt w a parts) (ht : 0 ≤ total ∧ total ≤ 100000000000) (hp : ∀ x ∈ parts, 0 ≤ x ∧ x ≤ 1000000) (hok : ShOk total parts) :
    Calls Tryz.prog 98 #[.int .i64 total, .slice a parts.length cap] w fun e w' => IntsOut (sharesP total parts) w.heap.size e w' ∧ Below w.heap.size w w' := by
  obtain ⟨n, hn⟩ : ∃ n, parts.length = n := ⟨_, rfl⟩
  have HP := hidE hp
  have HOK := hidE hok
  have H := hidE h
  have HN := hidE hn
  obtain ⟨Wh, hWh⟩ : ∃ Wh, shWhole parts = Wh := ⟨_, rfl⟩
  have HWH := hidE hWh
  have hW1 : 1 ≤ Wh := by rw [← hWh]; exact shWhole_pos parts
  have hbq : ∀ x ∈ shQuo total parts, 0 ≤ x ∧ x ≤ 100000000000000000 := by
    intro x hx
    obtain ⟨y, hy, rfl⟩ := List.mem_map.1 hx
    have h1 := hp y hy
    have h2 := shWhole_pos parts
    have h3 : 0 ≤ total * y := Int.mul_nonneg ht.1 h1.1
    have h4 : total * y ≤ 100000000000 * 1000000 := Int.mul_le_mul ht.2 h1.2 h1.1 (by decide)
    exact ⟨Int.ediv_nonneg h3 (by omega), Int.le_trans (Int.ediv_le_self _ h3) h4⟩
  have HBQ := hidE hbq
  have HS1 := hidE (sum5_any w a cap parts (by omega) h (fun k hk => by
    have := isum_take_bd (by decide) hp k
    omega))
  have hsb : 0 ≤ isum parts ∧ isum parts ≤ 50000000 := by
    have := isum_take_bd (by decide) hp parts.length
    rw [List.take_length] at this
    omega
  rw [hn] at hl HS1 ⊢
  have hmx : max (isum parts) 1 = Wh := by rw [← hWh, Int.max_comm]; rfl
  obtain ⟨s, hs⟩ : ∃ s, isum parts = s := ⟨_, rfl⟩
  rw [hs] at HS1 hmx hsb
  have hWle : Wh ≤ 50000000 := by omega
  clear h hp hok hWh hbq hn hs
  go_enter Tryz.func98, Tryz.ntmps98
  go_wp2_with fail
  refine HS1.out.mono ?_
  rintro e w4 ⟨rfl, rfl⟩
  go_wp2_with fail
  go_loopw [5, 6, 8] (fun u v i wr => ∃ k : Nat, k ≤ n ∧ i = .int .i64 k ∧ Hid (wr.ownsRow w4.heap.size 3 1 u ((parts.take k).map fun x => total * x / Wh).length (intsV ((parts.take k).map fun x => total * x / Wh))) ∧ Hid (wr.ownsRow w4.heap.size 3 1 v ((parts.take k).map fun x => total * x % Wh).length (intsV ((parts.take k).map fun x => total * x % Wh))) ∧ Hid (Apart u v) ∧ Hid (Below w4.heap.size w4 wr)) (fun _ _ i _ => n - (intOf i).toNat)
  case atStart => exact ⟨0, Nat.zero_le _, rfl, hidE (World.ownsRow_nil _ _ _ _), hidE (World.ownsRow_nil _ _ _ _), hidE (fun q e => by simp [Value.ownBlock] at e), hidE (Below.refl _ _)⟩
  case round =>
    obtain ⟨k, hk, rfl, HO0, HO1, HAP, HBB⟩ := hrel
    obtain ⟨wx, rfl⟩ : ∃ x : World, x = wr := ⟨wr, rfl⟩
    by_cases hlt : k < n
    · obtain ⟨b, off, rfl, hbl, hc⟩ := H.out.at (show k < parts.length by rw [HN.out]; exact hlt)
      rw [← HBB.out.cell hbl] at hc
      have hv := HP.out _ (List.getElem_mem (show k < parts.length by rw [HN.out]; exact hlt))
      have HS0 := hidE (map_take_succ (fun x => total * x / Wh) parts (show k < parts.length by rw [HN.out]; exact hlt))
      have HS2 := hidE (map_take_succ (fun x => total * x % Wh) parts (show k < parts.length by rw [HN.out]; exact hlt))
      obtain ⟨q, hq⟩ : ∃ q, parts[k]'(by rw [HN.out]; exact hlt) = q := ⟨_, rfl⟩
      rw [hq] at hc HS0 HS2 hv
      clear hq
      have hp0 : 0 ≤ total * q := Int.mul_nonneg ht.1 hv.1
      have hp1 : total * q ≤ 100000000000000000 := Int.le_trans (Int.mul_le_mul ht.2 hv.2 hv.1 (by decide)) (by decide)
      have hwm : IntKind.i64.wrap (total * q) = total * q := IntWalk.i64_in _ (by omega)
      have hdv : 0 ≤ total * q / Wh ∧ total * q / Wh ≤ 100000000000000000 := ⟨Int.ediv_nonneg hp0 (by omega), Int.le_trans (Int.ediv_le_self _ hp0) hp1⟩
      have hwq : IntKind.i64.wrap (total * q / Wh) = total * q / Wh := IntWalk.i64_in _ (by omega)
      have htd : (total * q).tdiv Wh = total * q / Wh := Int.tdiv_eq_ediv_of_nonneg hp0
      have htm : (total * q).tmod Wh = total * q % Wh := Int.tmod_eq_emod_of_nonneg hp0
      have hmd : 0 ≤ total * q % Wh ∧ total * q % Wh ≤ 100000000000000000 := ⟨Int.emod_nonneg _ (by omega), by have := Int.emod_lt_of_pos (total * q) (show 0 < Wh by omega); omega⟩
      have hwr : IntKind.i64.wrap (total * q % Wh) = total * q % Wh := IntWalk.i64_in _ (by omega)
      have hW0 : ¬ Wh = 0 := by omega
      have hW2 : (Wh == 0) = false := by simpa using hW0
      obtain ⟨v5, wa, hrun1, own5, hb1, hk1⟩ := append_int HO0.out (total * q / Wh) (by have := HN.out; simp; omega) HBB.out.size
      obtain ⟨own6, ap1⟩ := hk1 _ _ HO1.out HAP.out.symm
      have hsz1 : w4.heap.size ≤ wa.heap.size := Nat.le_trans HBB.out.size hb1.size
      obtain ⟨v6, wb, hrun2, own7, hb2, hk2⟩ := append_int own6 (total * q % Wh) (by have := HN.out; simp; omega) hsz1
      obtain ⟨own8, ap2⟩ := hk2 _ _ own5 ap1.symm
      have ca : wa.cell? ⟨b, off + k, none⟩ = some (.int .i64 q) := (hb1.cell (p := ⟨b, off + k, none⟩) hbl).trans hc
      have HRUN1 := hidE hrun1
      have HRUN2 := hidE hrun2
      have HN0 := hidE own8
      have HN1 := hidE own7
      have HN2 := hidE ap2
      have HN3 := hidE (HBB.out.trans (hb1.trans hb2))
      clear hrun1 hrun2 own5 own6 own7 own8 ap1 ap2 hk1 hk2 hb1 hb2
      go_wp2_with (at_builtin; first | (refine wpList_op_append rfl (s := .tmp 21) (x := .tmp 30) (t := 25) rfl rfl rfl HRUN1.out ?_) | (refine wpList_op_append rfl (s := .tmp 32) (x := .tmp 41) (t := 25) rfl rfl rfl HRUN2.out ?_))
      go_roundw
      case rel => exact ⟨k + 1, by omega, by go_num, hidE (by rw [HS0.out]; exact HN0.out), hidE (by rw [HS2.out]; exact HN1.out), HN2, HN3⟩
      case measure => simp [intOf]; omega
    · obtain rfl : k = n := by omega
      have e5 : ((parts.take k).map fun x => total * x / Wh) = shQuo total parts := by rw [← HN.out, List.take_length, ← HWH.out]; rfl
      have e6 : ((parts.take k).map fun x => total * x % Wh) = shRem total parts := by rw [← HN.out, List.take_length, ← HWH.out]; rfl
      rw [e5] at HO0
      rw [e6] at HO1
      have hLe : total - isum (shQuo total parts) = shLeft total parts := rfl
      have hL0 := shLeft_nonneg HOK.out
      have hL1 := shLeft_le HOK.out
      rw [HN.out] at hL1
      have hql : (shQuo total parts).length = k := by unfold shQuo; rw [List.length_map]; exact HN.out
      have hrl : (shRem total parts).length = k := by unfold shRem; rw [List.length_map]; exact HN.out
      have hol := remOrd_len (shRem total parts)
      rw [hrl] at hol
      have hbs : ∀ j, 0 ≤ isum ((shQuo total parts).take j) ∧ isum ((shQuo total parts).take j) ≤ j * 100000000000000000 := isum_take_bd (by decide) HBQ.out
      obtain ⟨o5, c5, rfl, hi5, _⟩ := intsAt_of_owns HO0.out
      obtain ⟨o6, c6, rfl, _, _⟩ := intsAt_of_owns HO1.out
      have HSUM := hidE (sum5_any wx o5 c5 (shQuo total parts) (by omega) hi5 (fun j hj => by have := hbs j; omega))
      have hq2 : ∀ j, 0 ≤ (shQuo total parts).getD j 0 ∧ (shQuo total parts).getD j 0 ≤ 100000000000000000 := fun j => by
        by_cases hj : j < (shQuo total parts).length
        · rw [getD_get _ _ hj]; exact HBQ.out _ (List.getElem_mem hj)
        · rw [List.getD_eq_getElem?_getD, List.getElem?_eq_none (by omega)]; decide
      have HOB := hidE (fun (i j : Nat) => outP_bd (L := (shLeft total parts).toNat) (quo := shQuo total parts) (remOrd_nodup (shRem total parts)) (fun i hi => by rw [hql, ← hrl]; exact remOrd_lt hi) i j)
      have HOP := hidE (fun (i : Nat) (hi : i ∈ remOrd (shRem total parts)) => show i < k by rw [← hrl]; exact remOrd_lt hi)
      have HBO := hidE (fun (i : Nat) (hi : (i : Int) < shLeft total parts) (hi2 : i < (remOrd (shRem total parts)).length) => best_ord HOK.out hi hi2)
      have HFIN := hidE (show outP (remOrd (shRem total parts)) (shLeft total parts).toNat (shQuo total parts) (shLeft total parts).toNat = sharesP total parts by unfold outP sharesP; rw [List.take_take, Nat.min_self])
      obtain ⟨L, hL⟩ : ∃ L : Nat, shLeft total parts = (L : Int) := ⟨(shLeft total parts).toNat, by omega⟩
      have hLt : (shLeft total parts).toNat = L := by omega
      rw [hLt] at HOB HFIN
      rw [hL] at hLe hL1 HBO
      rw [hql] at HSUM ⊢
      rw [hrl]
      obtain ⟨ord, hord⟩ : ∃ o, remOrd (shRem total parts) = o := ⟨_, rfl⟩
      rw [hord] at hol HOB HOP HFIN
      have HBO2 := hidE (fun (i : Nat) (hi : i < L) (hi2 : i < ord.length) => show bestTo (zeros (ord.take i) (shRem total parts)) (zeros (ord.take i) (shRem total parts)).length = (ord[i] : Int) by
        subst hord; exact HBO.out i (by omega) hi2)
      obtain ⟨quo, hquo⟩ : ∃ o, shQuo total parts = o := ⟨_, rfl⟩
      obtain ⟨rem, hrem⟩ : ∃ o, shRem total parts = o := ⟨_, rfl⟩
      rw [hquo] at HO0 HSUM HOB hLe hql hq2 HFIN
      rw [hrem] at HO1 hrl HBO2
      have HBDQ := hidE hq2
      have HQL := hidE hql
      have HRL := hidE hrl
      rw [hql] at HO0
      rw [hrl] at HO1
      have HOL := hidE hol
      obtain ⟨sq, hsq⟩ : ∃ o, isum quo = o := ⟨_, rfl⟩
      rw [hsq] at HSUM hLe
      have HSS := hidE (sharesP_len total parts)
      clear hL0 hbs hL hLt hord hquo hrem HBQ hq2 hol hsq hql hrl HBO e5 e6 hi5 HOK HWH HP H
      go_wp2_with fail
      refine HSUM.out.mono ?_
      rintro e w5 ⟨rfl, rfl⟩
      go_wp2_with fail
      go_loopw [9] (fun x wr => ∃ i : Nat, i ≤ L ∧ x = .int .i64 ((L - i : Nat) : Int) ∧ Hid (wr.ownsRow w4.heap.size 3 1 (.slice o5 k c5) k (intsV (outP ord L quo i))) ∧ Hid (wr.ownsRow w4.heap.size 3 1 (.slice o6 k c6) k (intsV (zeros (ord.take i) rem))) ∧ Hid (Below w4.heap.size w4 wr)) (fun x _ => (intOf x).toNat)
      case atStart => exact ⟨0, Nat.zero_le _, by simp, hidE (by rw [show outP ord L quo 0 = quo by unfold outP; simp]; exact HO0.out), HO1, HBB⟩
      case round =>
        obtain ⟨i, hi, rfl, HR5, HR6, HB3⟩ := hrel
        obtain ⟨wy, rfl⟩ : ∃ x : World, x = wr := ⟨wr, rfl⟩
        obtain ⟨M, hM⟩ : ∃ M : Nat, L - i = M := ⟨_, rfl⟩
        rw [hM]
        by_cases hpos : 0 < M
        · have hk0 : 0 < k := by omega
          have HPOS := hidE hpos
          have hio : i < ord.length := by have := HOL.out; omega
          have hbo := HBO2.out i (by omega) hio
          have HSU := hidE (outP_succ (ord := ord) (L := L) (quo := quo) (k := i) hio)
          have HZS := hidE (zeros_succ ord rem hio)
          have hpk := HOP.out ord[i] (List.getElem_mem hio)
          have HIL := hidE (show i < L by omega)
          have HM := hidE (show L - (i + 1) = M - 1 by omega)
          have hd : decide ((M : Int) > 0) = true := by simp; omega
          have hd2 : decide (0 < M) = true := by simp; omega
          have hm1 : (M : Int) - 1 = ((M - 1 : Nat) : Int) := by omega
          have hM2 : M ≤ 1000 := by omega
          obtain ⟨p, hp⟩ : ∃ p, ord[i] = p := ⟨_, rfl⟩
          rw [hp] at hbo HSU HZS hpk
          have hcl := zeros_len (ord.take i) rem
          rw [HRL.out] at hcl
          rw [hcl] at hbo
          obtain ⟨CUT, hCUT⟩ : ∃ c, zeros (ord.take i) rem = c := ⟨_, rfl⟩
          rw [hCUT] at hbo HR6 HZS hcl
          have hb1 := HOB.out i p
          have hb2 := HBDQ.out p
          have hol2 := outP_len ord L quo i
          rw [HQL.out] at hol2
          obtain ⟨OUT, hOUT⟩ : ∃ c, outP ord L quo i = c := ⟨_, rfl⟩
          rw [hOUT] at hb1 hol2 HR5 HSU
          have HBE := hidE hbo
          have HCL := hidE hcl
          have HOL2 := hidE hol2
          obtain ⟨v, hv⟩ : ∃ v, OUT.getD p 0 = v := ⟨_, rfl⟩
          rw [hv] at hb1
          have HV := hidE hv
          have hv1 : 0 ≤ v ∧ v ≤ 100000000000000001 := by omega
          clear hp hCUT hOUT hbo hcl hol2 hM hv hb1 hb2
          rcases HR5.out.2 with ⟨e, _⟩ | ⟨g5, cp5, cur5, e, _⟩
          · simp only [Value.slice.injEq] at e; omega
          simp only [Value.slice.injEq, true_and] at e
          obtain ⟨rfl, rfl⟩ := e
          rcases HR6.out.2 with ⟨e, _⟩ | ⟨g6, cp6, cur6, e, _⟩
          · simp only [Value.slice.injEq] at e; omega
          simp only [Value.slice.injEq, true_and] at e
          obtain ⟨rfl, rfl⟩ := e
          have hg65 : g6 ≠ g5 := fun e => HAP.out g5 rfl (by rw [e]; rfl)
          have HG65 := hidE hg65
          have HLT6 := hidE ((HR6.out.lt g6 rfl).2)
          go_wp2_with fail
          go_loopw [10, 11] (fun b y wr => ∃ m : Nat, m ≤ k ∧ b = .int .i64 (bestTo CUT m) ∧ y = .int .i64 m ∧ Hid (OnlyG wy.heap.size wy wr)) (fun _ y _ => k - (intOf y).toNat)
          case atStart => exact ⟨0, Nat.zero_le _, rfl, rfl, hidE (OnlyG.refl _ _)⟩
          case round =>
            obtain ⟨m, hm, rfl, rfl, HD⟩ := hrel
            obtain ⟨wz, rfl⟩ : ∃ x : World, x = wr := ⟨wr, rfl⟩
            by_cases hmk : m < k
            · have hcell : ∀ j, j < k → wz.cell? ⟨g6, j, none⟩ = some (.int .i64 (CUT.getD j 0)) := fun j hj => by
                rw [HD.out.cell (p := ⟨g6, j, none⟩) (Nat.ne_of_lt HLT6.out), HR6.out.cellAt j (by omega), intsV_get (by rw [HCL.out]; exact hj)]
              have c1 := hcell m hmk
              have HSP := hidE (bestTo_spec CUT m)
              have HBS := hidE (bestTo_succ CUT m)
              unfold best1 at HBS
              obtain ⟨x, hx⟩ : ∃ x, CUT.getD m 0 = x := ⟨_, rfl⟩
              rw [hx] at c1 HBS
              clear hx
              by_cases hx0 : 0 < x
              · have dx : decide (x > 0) = true := by simpa using hx0
                have dx' : decide (0 < x) = true := by simpa using hx0
                rcases HSP.out with ⟨e1, _⟩ | ⟨q, hqm, e1, _, _⟩
                · rw [e1] at HBS ⊢
                  have HBF := hidE (show bestTo CUT (m + 1) = (m : Int) by rw [HBS.out, if_pos ⟨hx0, .inl (by omega)⟩])
                  clear hcell hx0 e1
                  go_wp2_with fail
                  go_upto_region 15 with fail
                  go_quiet (fail)
                  go_wp2_with fail
                  go_roundw
                  case rel => exact ⟨m + 1, by omega, by rw [HBF.out], by go_num, hidE (HD.out.trans (OnlyG.drewN _ _))⟩
                  case measure => simp [intOf]; omega
                · rw [e1, Int.toNat_natCast] at HBS
                  rw [e1]
                  have c2 := hcell q (by omega)
                  have hq0 : decide ((q : Int) < 0) = false := by simp
                  obtain ⟨y, hy⟩ : ∃ y, CUT.getD q 0 = y := ⟨_, rfl⟩
                  rw [hy] at c2 HBS
                  clear hy
                  by_cases hyx : y < x
                  · have dy : decide (x > y) = true := by simpa using hyx
                    have dy' : decide (y < x) = true := by simpa using hyx
                    have HBF := hidE (show bestTo CUT (m + 1) = (m : Int) by rw [HBS.out, if_pos ⟨hx0, .inr hyx⟩])
                    clear hcell hx0 e1 hyx
                    go_upto_region 15 with fail
                    go_quiet (fail)
                    go_wp2_with fail
                    go_roundw
                    case rel => exact ⟨m + 1, by omega, by rw [HBF.out], by go_num, hidE (HD.out.trans (OnlyG.drewN _ _))⟩
                    case measure => simp [intOf]; omega
                  · have dy : decide (x > y) = false := by simpa using hyx
                    have dy' : decide (y < x) = false := by simpa using hyx
                    have HBF := hidE (show bestTo CUT (m + 1) = (q : Int) by rw [HBS.out, if_neg (by omega)])
                    clear hcell hx0 e1 hyx
                    go_upto_region 15 with fail
                    go_quiet (fail)
                    go_wp2_with fail
                    go_roundw
                    case rel => exact ⟨m + 1, by omega, by rw [HBF.out], by go_num, hidE (HD.out.trans (OnlyG.drewN _ _))⟩
                    case measure => simp [intOf]; omega
              · have dx : decide (x > 0) = false := by simpa using hx0
                have dx' : decide (0 < x) = false := by simpa using hx0
                have HBF := hidE (show bestTo CUT (m + 1) = bestTo CUT m by rw [HBS.out, if_neg (fun h => hx0 h.1)])
                clear hcell hx0
                go_upto_region 15 with fail
                go_quiet (fail)
                go_wp2_with fail
                go_roundw
                case rel => exact ⟨m + 1, by omega, by rw [HBF.out], by go_num, hidE (HD.out.trans (OnlyG.drewN _ _))⟩
                case measure => simp [intOf]; omega
            · obtain rfl : m = k := by omega
              rw [HBE.out]
              have own5 := own_later HR5.out HD.out.bl
              have own6 := own_later HR6.out HD.out.bl
              have q5 : wz.cell? ⟨g5, p, none⟩ = some (.int .i64 v) := by rw [own5.cellAt p (by omega), intsV_get (by rw [HOL2.out]; exact hpk), HV.out]
              have f5 : wz.frozen? ⟨g5, p, none⟩ = false := own5.frozenAt p
              have hwv : IntKind.i64.wrap (v + 1) = v + 1 := IntWalk.i64_in _ (by omega)
              have S1 := (own5.stored p (.int .i64 (v + 1))).1
              have T6 := ownsRow_setCell_other own6 (a := ⟨g5, p, none⟩) (by simp only [Value.ownBlock, ne_eq, Option.some.injEq]; exact HG65.out) (.int .i64 (v + 1))
              have q6 : (wz.setCell ⟨g5, p, none⟩ (.int .i64 (v + 1))).cell? ⟨g6, p, none⟩ = some (.int .i64 (CUT.getD p 0)) := by rw [T6.cellAt p (by omega), intsV_get (by rw [HCL.out]; exact hpk)]
              have f6 : (wz.setCell ⟨g5, p, none⟩ (.int .i64 (v + 1))).frozen? ⟨g6, p, none⟩ = false := T6.frozenAt p
              have q7 : wz.cell? ⟨g6, p, none⟩ = some (.int .i64 (CUT.getD p 0)) := by rw [own6.cellAt p (by omega), intsV_get (by rw [HCL.out]; exact hpk)]
              have f7 : wz.frozen? ⟨g6, p, none⟩ = false := own6.frozenAt p
              have S2 := (T6.stored p (.int .i64 0)).1
              have S3 := ownsRow_setCell_other S1 (a := ⟨g6, p, none⟩) (by simp only [Value.ownBlock, ne_eq, Option.some.injEq]; exact fun e => HG65.out e.symm) (.int .i64 0)
              rw [intsV_set] at S2 S3
              have HF5 := hidE S3
              have HF6 := hidE S2
              have HBF := hidE ((HB3.out.trans (HD.out.bl.mono HB3.out.size)).setCell (p := ⟨g5, p, none⟩) (HR5.out.lt g5 rfl).1 (.int .i64 (v + 1)) |>.setCell (p := ⟨g6, p, none⟩) (HR6.out.lt g6 rfl).1 (.int .i64 0))
              obtain ⟨z6, hz6⟩ : ∃ z, CUT.getD p 0 = z := ⟨_, rfl⟩
              rw [hz6] at q6 q7
              clear hz6 S1 S2 S3 T6 own5 own6
              go_wp2_with fail
              go_roundw
              case rel => exact ⟨i + 1, HIL.out, by rw [HM.out], hidE (by rw [HSU.out, if_pos HIL.out]; unfold bump; rw [HV.out]; exact HF5.out), hidE (by rw [HZS.out]; exact HF6.out), HBF⟩
              case measure => simp only [intOf, Int.toNat_natCast]; exact Nat.sub_lt HPOS.out Nat.one_pos
        · obtain rfl : M = 0 := by omega
          obtain rfl : i = L := by omega
          rw [HFIN.out] at HR5
          go_wp2_with fail
          go_ret
          exact ⟨⟨_, rfl, by rw [HSS.out, HN.out]; exact HR5.out⟩, HB3.out⟩
end Go.Proofs.YthjmkmjojlfejaaGreat

namespace Go.Proofs.YthjmkmjojlfejaaGreat
open Go Go.RowKit Go.Shelf
set_option maxHeartbeats 2000000 in
theorem shares5E_any (w : World) (total : Int) (a : Option Addr) (cap : Nat) (parts : List Int) (hl : parts.length ≤ 9223372036854775807) (h : IntsAt w a parts) :
    Calls Tryz.prog 42 #[.int .i64 total, .slice a parts.length cap] w fun e w' => ListErr (sharesE total parts).1 (sharesE total parts).2 w.heap.size e w' ∧ Below w.heap.size w w' := by
  have HC := hidE (shared_any w total a cap parts hl h)
  have H := hidE h
  obtain ⟨Q, hQ⟩ : ∃ Q, sharesE total parts = Q := ⟨_, rfl⟩
  rw [hQ]
  clear h
  by_cases hz : checkSharesP total parts = 0
  · obtain ⟨h1, h2, h3, h4⟩ := checkShares_ok hz
    unfold sharesE at hQ
    rw [if_pos hz] at hQ
    subst hQ
    rw [hz] at HC
    have HS := hidE (fun W hW => shares5_any W total a cap parts h1 hW h2 h3 h4)
    clear hz h1 h2 h3 h4
    go_enter Tryz.func42, Tryz.ntmps42
    go_wp2_with fail
    refine HC.out.mono ?_
    rintro e w1 ⟨rfl, rfl⟩
    go_wp2_with fail
    refine (HS.out _ H.out).mono ?_
    rintro e w2 ⟨⟨v, rfl, ho⟩, hb⟩
    have HO := hidE ho
    have HB := hidE hb
    clear ho hb
    go_wp2_with fail
    go_ret2
    exact ⟨⟨_, rfl, HO.out⟩, HB.out⟩
  · unfold sharesE at hQ
    rw [if_neg hz] at hQ
    subst hQ
    obtain ⟨z, hz2⟩ : ∃ z, checkSharesP total parts = z := ⟨_, rfl⟩
    rw [hz2] at hz HC
    have hz3 : (z != 0) = true := by simpa using hz
    have HZ := hidE hz2
    clear hz2
    go_enter Tryz.func42, Tryz.ntmps42
    go_wp2_with fail
    refine HC.out.mono ?_
    rintro e w1 ⟨rfl, rfl⟩
    go_wp2_with fail
    go_ret2
    exact ⟨⟨.slice none 0 0, by rw [HZ.out]; rfl, World.ownsRow_nil _ _ _ _⟩, Below.refl _ _⟩
end Go.Proofs.YthjmkmjojlfejaaGreat

namespace Go.Proofs.YthjmkmjojlfejaaGreat
theorem orderP_asc (ranks : List Int) : (orderP ranks).Pairwise (· < ·) := (compact_asc (sortP_le _)).1
end Go.Proofs.YthjmkmjojlfejaaGreat

namespace Go.Proofs.YthjmkmjojlfejaaGreat
theorem isum_map_add {α : Type} (f g : α → Int) (l : List α) : isum (l.map fun x => f x + g x) = isum (l.map f) + isum (l.map g) := by
  induction l with
  | nil => simp [isum]
  | cons x l ih => simp only [List.map_cons, isum, ih]; omega
theorem isum_out2 {a b : List Int} (h : b.length = a.length) : isum (out2P a b) = isum a + isum b := by
  unfold out2P
  rw [isum_map_add]
  have ha := list_range a
  have hb := list_range b
  rw [h] at hb
  rw [← ha, ← hb]
theorem out2_get {a b : List Int} {j : Nat} (hj : j < a.length) : (out2P a b).getD j 0 = a.getD j 0 + b.getD j 0 := by
  simp [out2P, List.getD_eq_getElem?_getD, hj]
theorem out2_len (a b : List Int) : (out2P a b).length = a.length := by simp [out2P]
/-- What has been given when the ranks of D have got theirs. -/
structure Given (claims ranks : List Int) (found : Int) (D : List Int) (s : Rk) : Prop where
  left : 0 ≤ s.left
  len : s.out.length = claims.length
  inn : ∀ i, i < claims.length → ranks.getD i 0 ∈ D → s.out.getD i 0 = claims.getD i 0
  out : ∀ i, i < claims.length → ranks.getD i 0 ∉ D → s.out.getD i 0 = 0
  sum : isum s.out + s.left = found
/-- What the law says of what was given. -/
structure RankLaw (claims ranks : List Int) (found : Int) (l : List Int) : Prop where
  len : l.length = claims.length
  pos : ∀ i, i < claims.length → 0 ≤ l.getD i 0
  fair : ∀ i k, i < claims.length → k < claims.length → ranks.getD i 0 < ranks.getD k 0 → 0 < l.getD k 0 → claims.getD i 0 ≤ l.getD i 0
  sum : isum l = found
theorem rank_in {claims ranks : List Int} (hl : ranks.length = claims.length) {i : Nat} (hi : i < claims.length) : ranks.getD i 0 ∈ orderP ranks := mem_orderP.2 (by
  rw [List.getD_eq_getElem?_getD, List.getElem?_eq_getElem (by omega)]
  exact List.getElem_mem _)
theorem ref5_law {claims ranks : List Int} {found : Int} (hl : ranks.length = claims.length) (hc : ∀ x ∈ claims, 0 ≤ x) : ∀ (l D0 : List Int) (last : Int) (s : Rk), D0 ++ l = orderP ranks → Given claims ranks found D0 s →
    (ref5Go claims ranks l last s).2 = 0 → RankLaw claims ranks found (ref5Go claims ranks l last s).1 := by
  intro l
  induction l with
  | nil =>
    intro D0 last s hD G h2
    rw [List.append_nil] at hD
    have hall : ∀ i, i < claims.length → s.out.getD i 0 = claims.getD i 0 := fun i hi => G.inn i hi (by rw [hD]; exact rank_in hl hi)
    unfold ref5Go at h2 ⊢
    by_cases hz : s.left = 0
    · rw [if_pos hz]
      refine ⟨G.len, fun i hi => ?_, fun i k hi hk _ _ => ?_, ?_⟩
      · show 0 ≤ s.out.getD i 0
        rw [hall i hi]; exact getD_nonneg hc i
      · show _ ≤ s.out.getD i 0
        rw [hall i hi]; exact Int.le_refl _
      · have := G.sum
        show isum s.out = found
        omega
    · rw [if_neg hz] at h2 ⊢
      by_cases hs : isum (ofP claims ranks last) = 0
      · rw [if_pos hs] at h2; cases h2
      · rw [if_neg hs]
        have hn := isum_nonneg (ofP_nonneg (ranks := ranks) hc last)
        have ho : ShOk s.left (ofP claims ranks last) := ⟨G.left, ofP_nonneg hc last, .inl (by omega)⟩
        have hsl : (sharesP s.left (ofP claims ranks last)).length = s.out.length := by rw [sharesP_len, G.len]; simp [ofP]
        have hge : ∀ i, 0 ≤ (sharesP s.left (ofP claims ranks last)).getD i 0 := getD_nonneg (shares_nonneg ho)
        refine ⟨(out2_len _ _).trans G.len, fun i hi => ?_, fun i k hi hk _ _ => ?_, ?_⟩
        · show 0 ≤ (out2P s.out (sharesP s.left (ofP claims ranks last))).getD i 0
          rw [out2_get (by rw [G.len]; exact hi), hall i hi]
          have := hge i
          have := getD_nonneg hc i
          omega
        · show _ ≤ (out2P s.out (sharesP s.left (ofP claims ranks last))).getD i 0
          rw [out2_get (by rw [G.len]; exact hi), hall i hi]
          have := hge i
          omega
        · show isum (out2P s.out (sharesP s.left (ofP claims ranks last))) = found
          rw [isum_out2 hsl, sharesP_sum ho]
          exact G.sum
  | cons r l ih =>
    intro D0 last s hD G h2
    have P := part_of hl r
    have hn := isum_nonneg (ofP_nonneg (ranks := ranks) hc r)
    have hasc := orderP_asc ranks
    rw [← hD, List.pairwise_append] at hasc
    obtain ⟨_, hasc2, hasc3⟩ := hasc
    have hrD : r ∉ D0 := fun h => by have := hasc3 r h r (List.mem_cons_self ..); omega
    have hown : ∀ i, i < claims.length → (ofP claims ranks r).getD i 0 = if ranks.getD i 0 = r then claims.getD i 0 else 0 := by
      intro i hi
      simp [ofP, List.getD_eq_getElem?_getD, hi]
    unfold ref5Go at h2 ⊢
    by_cases hlt : s.left < isum (ofP claims ranks r)
    · rw [if_pos hlt]
      have ho : ShOk s.left (ofP claims ranks r) := ⟨G.left, ofP_nonneg hc r, .inl (by have := G.left; omega)⟩
      have hsl : (sharesP s.left (ofP claims ranks r)).length = s.out.length := by rw [sharesP_len, G.len]; simp [ofP]
      have hge : ∀ i, 0 ≤ (sharesP s.left (ofP claims ranks r)).getD i 0 := getD_nonneg (shares_nonneg ho)
      have hzero : ∀ i, i < claims.length → ranks.getD i 0 ≠ r → (sharesP s.left (ofP claims ranks r)).getD i 0 = 0 := fun i hi hne => P.shares_out ho hi (by simpa using hne)
      have hout : ∀ i, 0 ≤ s.out.getD i 0 := by
        intro i
        by_cases hi : i < claims.length
        · by_cases hm : ranks.getD i 0 ∈ D0
          · rw [G.inn i hi hm]; exact getD_nonneg hc i
          · rw [G.out i hi hm]; exact Int.le_refl _
        · rw [List.getD_eq_getElem?_getD, List.getElem?_eq_none (by rw [G.len]; omega)]; exact Int.le_refl _
      refine ⟨(out2_len _ _).trans G.len, fun i hi => ?_, fun i k hi hk hik hpos => ?_, ?_⟩
      · show 0 ≤ (out2P s.out (sharesP s.left (ofP claims ranks r))).getD i 0
        rw [out2_get (by rw [G.len]; exact hi)]
        have := hge i
        have := hout i
        omega
      · have hpos' : 0 < (out2P s.out (sharesP s.left (ofP claims ranks r))).getD k 0 := hpos
        rw [out2_get (by rw [G.len]; exact hk)] at hpos'
        have hkr : ranks.getD k 0 ≤ r := by
          by_cases hm : ranks.getD k 0 ∈ D0
          · have := hasc3 _ hm r (List.mem_cons_self ..); omega
          · by_cases he : ranks.getD k 0 = r
            · omega
            · rw [G.out k hk hm, hzero k hk he] at hpos'
              simp at hpos'
        have hiD : ranks.getD i 0 ∈ D0 := by
          have hm := rank_in hl hi
          rw [← hD, List.mem_append] at hm
          rcases hm with h | h
          · exact h
          · rcases List.mem_cons.1 h with h | h
            · omega
            · have := (List.pairwise_cons.1 hasc2).1 _ h; omega
        show _ ≤ (out2P s.out (sharesP s.left (ofP claims ranks r))).getD i 0
        rw [out2_get (by rw [G.len]; exact hi), G.inn i hi hiD]
        have := hge i
        omega
      · show isum (out2P s.out (sharesP s.left (ofP claims ranks r))) = found
        rw [isum_out2 hsl, sharesP_sum ho]
        exact G.sum
    · rw [if_neg hlt] at h2 ⊢
      have hol : (ofP claims ranks r).length = s.out.length := by rw [G.len]; simp [ofP]
      refine ih (D0 ++ [r]) r _ (by rw [List.append_assoc]; exact hD) ⟨by simp only; omega, (out2_len _ _).trans G.len, fun i hi hm => ?_, fun i hi hm => ?_, ?_⟩ h2
      · show (out2P s.out (ofP claims ranks r)).getD i 0 = _
        rw [out2_get (by rw [G.len]; exact hi), hown i hi]
        rcases List.mem_append.1 hm with h | h
        · rw [G.inn i hi h, if_neg (fun e => hrD (by rw [← e]; exact h))]; omega
        · have e := List.mem_singleton.1 h
          rw [G.out i hi (by rw [e]; exact hrD), if_pos e]; omega
      · show (out2P s.out (ofP claims ranks r)).getD i 0 = _
        rw [List.mem_append, not_or] at hm
        rw [out2_get (by rw [G.len]; exact hi), hown i hi, G.out i hi hm.1, if_neg (fun e => hm.2 (List.mem_singleton.2 e))]; rfl
      · show isum (out2P s.out (ofP claims ranks r)) + (s.left - isum (ofP claims ranks r)) = found
        rw [isum_out2 hol]
        have := G.sum
        omega
theorem isum_replicate_zero (n : Nat) : isum (List.replicate n 0) = 0 := by
  induction n with
  | zero => rfl
  | succ n ih => rw [List.replicate_succ]; simp only [isum, ih]; rfl
theorem ranked_law {found : Int} {claims ranks : List Int} (h : (rankedE found claims ranks).2 = 0) : ranks.length = claims.length ∧ RankLaw claims ranks found (rankedE found claims ranks).1 := by
  rw [ranked_ref] at h ⊢
  unfold ranked5E at h ⊢
  split at h
  · rename_i h1; exact absurd h h1
  · rename_i h1
    rw [if_neg h1]
    split at h
    · cases h
    · rename_i h2
      rw [if_neg h2]
      simp only [ne_eq, Decidable.not_not] at h1
      obtain ⟨q1, q2, q3, q4⟩ := checkShares_ok h1
      have hl : ranks.length = claims.length := by
        apply Classical.byContradiction; intro e; exact h2 (.inl e)
      refine ⟨hl, ref5_law hl (fun x hx => (q3 x hx).1) (orderP ranks) [] (-1) (rankStart found claims) rfl ⟨q2.1, by simp [rankStart], fun i _ hm => (by cases hm), fun i hi _ => ?_, ?_⟩ h⟩
      · simp [rankStart, List.getD_eq_getElem?_getD, hi]
      · show isum (List.replicate claims.length 0) + found = found
        rw [isum_replicate_zero]; omega
theorem ranked_err {found : Int} {claims ranks : List Int} (h : (rankedE found claims ranks).2 ≠ 0) : (rankedE found claims ranks).1 = [] := by
  unfold rankedE at h ⊢
  split
  · rfl
  · rename_i h1
    rw [if_neg h1] at h
    split
    · rfl
    · rename_i h2
      rw [if_neg h2] at h
      unfold lastR at h ⊢
      split
      · rename_i h3
        rw [if_pos h3] at h
        split
        · rename_i h4
          rw [if_pos h4] at h; exact absurd rfl h
        · rfl
      · rename_i h3
        rw [if_neg h3] at h; exact absurd rfl h
end Go.Proofs.YthjmkmjojlfejaaGreat

namespace Go.Proofs.YthjmkmjojlfejaaGreat
open Go Go.RowKit Go.Shelf
def fillTo (f : Nat → Int) (n k : Nat) : List Int := (List.range k).map f ++ List.replicate (n - k) 0
theorem fillTo_len (f : Nat → Int) (n k : Nat) (hk : k ≤ n) : (fillTo f n k).length = n := by simp [fillTo]; omega
theorem fill_set (f : Nat → Int) {n k : Nat} (hk : k < n) : (fillTo f n k).set k (f k) = fillTo f n (k + 1) := by
  unfold fillTo
  rw [List.set_append_right _ _ (by simp), List.length_map, List.length_range, Nat.sub_self, show n - k = (n - (k + 1)) + 1 by omega, List.replicate_succ, List.set_cons_zero, List.range_succ, List.map_append]
  simp
theorem fill_same (f : Nat → Int) {n k : Nat} (hk : k < n) (h : f k = 0) : fillTo f n k = fillTo f n (k + 1) := by
  unfold fillTo
  rw [show n - k = (n - (k + 1)) + 1 by omega, List.replicate_succ, List.range_succ, List.map_append]
  simp [h]
theorem fill_all (f : Nat → Int) (n : Nat) : fillTo f n n = (List.range n).map f := by simp [fillTo]
set_option maxRecDepth 100000 in
set_option maxHeartbeats 4000000 in
theorem of_any (w : World) (a : Option Addr) (cap : Nat) (claims : List Int) (a2 : Option Addr) (cap2 : Nat) (ranks : List Int) (r : Int) (hl : claims.length ≤ 4000) (hr : ranks.length = claims.length) (h : IntsAt w a claims) (h2 : IntsAt w a2 ranks) :
    Calls Tryz.prog 95 #[.slice a claims.length cap, .slice a2 ranks.length cap2, .int .i64 r] w fun e w' => e = .returned (.slice (some ⟨w.heap.size, 0, none⟩) claims.length claims.length) ∧ w'.heap[w.heap.size]? = some (.cells (rowA (ofP claims ranks r)) 3 (0,0)) ∧ Below w.heap.size w w' := by
  have H := hidE h
  have H2 := hidE h2
  have HR := hidE hr
  obtain ⟨n, hn⟩ : ∃ n, claims.length = n := ⟨_, rfl⟩
  have HN := hidE hn
  rw [hn] at hl
  rw [hr, hn]
  obtain ⟨f, hf⟩ : ∃ f : Nat → Int, (fun i => if ranks.getD i 0 = r then claims.getD i 0 else 0) = f := ⟨_, rfl⟩
  have HF := hidE (fun i => congrFun hf i)
  have HE : Hid (ofP claims ranks r = fillTo f n n) := hidE (by rw [fill_all, ← hf, ← hn]; rfl)
  clear h h2 hr hn hf
  have hmk3 := fun W => run_make_row' (P := Tryz.prog) 25 3 (.int .i64 0) 8 Tryz.underlying25 Tryz.info3' rfl .i64 .i64 n (by omega) (by omega) W
  go_enter Tryz.func95, Tryz.ntmps95
  go_wp2_with fail
  go_loopw [8] (fun i wr => ∃ k : Nat, k ≤ n ∧ i = .int .i64 k ∧ Hid (wr.heap[w.heap.size]? = some (.cells (rowA (fillTo f n k)) 3 (0,0))) ∧ Below w.heap.size w wr)
    (fun i _ => n - (intOf i).toNat)
  case atStart => exact ⟨0, Nat.zero_le _, rfl, hidE (by rw [heap_alloc_new, madeInts]; rfl), by go_grown⟩
  case round =>
    obtain ⟨k, hk, rfl, HC, hb⟩ := hrel
    have hsz := lt_of_block HC.out
    by_cases hlt : k < n
    · obtain ⟨b, off, rfl, hbl, hc⟩ := H.out.at (show k < claims.length by rw [HN.out]; exact hlt)
      obtain ⟨b2, off2, rfl, hbl2, hc2⟩ := H2.out.at (show k < ranks.length by rw [HR.out, HN.out]; exact hlt)
      rw [← hb.cell hbl, ← getD_get claims 0 (by rw [HN.out]; exact hlt)] at hc
      rw [← hb.cell hbl2, ← getD_get ranks 0 (by rw [HR.out, HN.out]; exact hlt)] at hc2
      have fd : wr.frozen? ⟨w.heap.size, k, none⟩ = false := frozen_of_row _ _ _ _ _ HC.out
      have cd : wr.cell? ⟨w.heap.size, k, none⟩ = some (.int .i64 ((fillTo f n k).getD k 0)) := by rw [cell_of_row _ _ _ _ _ _ HC.out, rowA_get (by rw [fillTo_len _ _ _ hk]; exact hlt)]
      have hfk := HF.out k
      have HS := hidE (fill_set f hlt)
      have HT := hidE (fill_same f hlt)
      obtain ⟨q, hq⟩ : ∃ q, claims.getD k 0 = q := ⟨_, rfl⟩
      obtain ⟨p, hp⟩ : ∃ q, ranks.getD k 0 = q := ⟨_, rfl⟩
      obtain ⟨fk, hfkv⟩ : ∃ q, f k = q := ⟨_, rfl⟩
      rw [hq] at hc hfk
      rw [hp] at hc2 hfk
      rw [hfkv] at HS HT hfk
      obtain ⟨z, hz⟩ : ∃ z, (fillTo f n k).getD k 0 = z := ⟨_, rfl⟩
      rw [hz] at cd
      clear hz hq hp hfkv
      by_cases e : p = r
      · rw [if_pos e] at hfk
        subst hfk
        have d0 : (p == r) = true := by simpa using e
        clear e
        go_wp2_with fail
        go_roundw
        case rel => exact ⟨k + 1, by omega, by go_num, hidE (by rw [heap_setCell_same _ _ _ _ _ _ HC.out, rowA_set, HS.out]), by go_grown⟩
        case measure => simp [intOf]; omega
      · rw [if_neg e] at hfk
        have d0 : (p == r) = false := by simpa using e
        have HT2 := hidE (HT.out hfk.symm)
        clear e hfk
        go_wp2_with fail
        go_roundw
        case rel => exact ⟨k + 1, by omega, by go_num, hidE (by rw [← HT2.out]; exact HC.out), hb⟩
        case measure => simp [intOf]; omega
    · obtain rfl : k = n := by omega
      go_wp2_with fail
      go_ret
      exact ⟨rfl, by rw [HE.out]; exact HC.out, hb⟩
def out2To (xs ys : List Int) (k : Nat) : List Int := (List.range k).map fun i => xs.getD i 0 + ys.getD i 0
theorem out2To_succ (xs ys : List Int) (k : Nat) : out2To xs ys (k + 1) = out2To xs ys k ++ [xs.getD k 0 + ys.getD k 0] := by
  unfold out2To; rw [List.range_succ, List.map_append]; rfl
theorem out2To_len (xs ys : List Int) (k : Nat) : (out2To xs ys k).length = k := by simp [out2To]
set_option maxRecDepth 100000 in
set_option maxHeartbeats 8000000 in
theorem out2_any (w : World) (a : Option Addr) (cap : Nat) (xs : List Int) (a2 : Option Addr) (cap2 : Nat) (ys : List Int) (hl : xs.length ≤ 4000) (hr : ys.length = xs.length) (h : IntsAt w a xs) (h2 : IntsAt w a2 ys) (hbd : ∀ k, -9000000000000000000 ≤ xs.getD k 0 + ys.getD k 0 ∧ xs.getD k 0 + ys.getD k 0 ≤ 9000000000000000000) :
    Calls Tryz.prog 97 #[.slice a xs.length cap, .slice a2 ys.length cap2] w fun e w' => IntsOut (out2P xs ys) w.heap.size e w' ∧ Below w.heap.size w w' := by
  have H := hidE h
  have H2 := hidE h2
  have HR := hidE hr
  have HBD := hidE hbd
  obtain ⟨n, hn⟩ : ∃ n, xs.length = n := ⟨_, rfl⟩
  have HN := hidE hn
  rw [hn] at hl
  rw [hr, hn]
  have HE : Hid (out2P xs ys = out2To xs ys n) := hidE (by rw [← hn]; rfl)
  clear h h2 hr hn hbd
  go_enter Tryz.func97, Tryz.ntmps97
  go_wp2_with fail
  go_loopw [5, 6] (fun v i wr => ∃ k : Nat, k ≤ n ∧ i = .int .i64 k ∧ Hid (wr.ownsRow w.heap.size 3 1 v (out2To xs ys k).length (intsV (out2To xs ys k))) ∧ Hid (Below w.heap.size w wr)) (fun _ i _ => n - (intOf i).toNat)
  case atStart => exact ⟨0, Nat.zero_le _, rfl, hidE (World.ownsRow_nil _ _ _ _), hidE (Below.refl _ _)⟩
  case round =>
    obtain ⟨k, hk, rfl, HO, HBB⟩ := hrel
    obtain ⟨wx, rfl⟩ : ∃ x : World, x = wr := ⟨wr, rfl⟩
    by_cases hlt : k < n
    · obtain ⟨b, off, rfl, hbl, hc⟩ := H.out.at (show k < xs.length by rw [HN.out]; exact hlt)
      obtain ⟨b2, off2, rfl, hbl2, hc2⟩ := H2.out.at (show k < ys.length by rw [HR.out, HN.out]; exact hlt)
      rw [← HBB.out.cell hbl, ← getD_get xs 0 (by rw [HN.out]; exact hlt)] at hc
      rw [← HBB.out.cell hbl2, ← getD_get ys 0 (by rw [HR.out, HN.out]; exact hlt)] at hc2
      have HSUC := hidE (out2To_succ xs ys k)
      have hs := HBD.out k
      obtain ⟨p, hp⟩ : ∃ q, xs.getD k 0 = q := ⟨_, rfl⟩
      obtain ⟨q, hq⟩ : ∃ q, ys.getD k 0 = q := ⟨_, rfl⟩
      rw [hp] at hc hs HSUC
      rw [hq] at hc2 hs HSUC
      obtain ⟨s, hsv⟩ : ∃ s, p + q = s := ⟨_, rfl⟩
      rw [hsv] at hs HSUC
      have hw1 : IntKind.i64.wrap s = s := IntWalk.i64_in _ (by omega)
      obtain ⟨v5, wa, hrun1, own5, hb1, _⟩ := append_int (w := wx.drew) HO.out.drew s (by rw [out2To_len]; omega) (by show w.heap.size ≤ wx.heap.size; exact HBB.out.size)
      have ca : wa.cell? ⟨b, off + k, none⟩ = some (.int .i64 p) := (hb1.cell (p := ⟨b, off + k, none⟩) hbl).trans hc
      have cb : wa.cell? ⟨b2, off2 + k, none⟩ = some (.int .i64 q) := (hb1.cell (p := ⟨b2, off2 + k, none⟩) hbl2).trans hc2
      have HRUN1 := hidE hrun1
      have HO5 := hidE own5
      have HB5 := hidE (HBB.out.drew.trans hb1)
      have lb : b < wx.heap.size := by have := HBB.out.size; omega
      have lb2 : b2 < wx.heap.size := by have := HBB.out.size; omega
      have kI : (k : Int) < (n : Int) := by omega
      clear hrun1 own5 hb1 hp hq
      go_upto_region 5 with fail
      refine wp_region_F (S := fun V => V.cell? ⟨b, off + k, none⟩ = some (.int .i64 p) ∧ V.cell? ⟨b2, off2 + k, none⟩ = some (.int .i64 q)) (last := 12) (by kernel_rfl) ?_
      have hS0 : wx.drew.cell? ⟨b, off + k, none⟩ = some (.int .i64 p) ∧ wx.drew.cell? ⟨b2, off2 + k, none⟩ = some (.int .i64 q) := ⟨hc, hc2⟩
      refine wpAnyF_takeD (i := 0) (d := 13) (v := u5) (by kernel_rfl) (by decide) rfl rfl (by kernel_rfl) (by kernel_rfl) (by kernel_rfl) (fun _ _ _ h => h) (.inl ⟨rfl, fun V hV => ?_⟩) hS0 ?_
      · first | (obtain ⟨r0, r1⟩ := hV; simp [go_sem, execOp]; done) | simp [go_sem, execOp]
      try simp only [List.setIfInBounds_toArray, List.set_cons_succ, List.set_cons_zero]
      refine wpAnyF_takeD (i := 1) (d := 14) (v := .slice (some ⟨b, off, none⟩) n cap) (by kernel_rfl) (by decide) rfl rfl (by kernel_rfl) (by kernel_rfl) (by kernel_rfl) (fun _ _ _ h => h) (.inl ⟨rfl, fun V hV => ?_⟩) hS0 ?_
      · first | (obtain ⟨r0, r1⟩ := hV; simp [go_sem, execOp]; done) | simp [go_sem, execOp]
      try simp only [List.setIfInBounds_toArray, List.set_cons_succ, List.set_cons_zero]
      refine wpAnyF_takeD (i := 2) (d := 15) (v := .int .i64 (k : Int)) (by kernel_rfl) (by decide) rfl rfl (by kernel_rfl) (by kernel_rfl) (by kernel_rfl) (fun _ _ _ h => h) (.inl ⟨rfl, fun V hV => ?_⟩) hS0 ?_
      · first | (obtain ⟨r0, r1⟩ := hV; simp [go_sem, execOp]; done) | simp [go_sem, execOp]
      try simp only [List.setIfInBounds_toArray, List.set_cons_succ, List.set_cons_zero]
      refine wpAnyF_takeD (i := 3) (d := 16) (v := .pointer (some ⟨b, off + k, none⟩)) (by kernel_rfl) (by decide) rfl rfl (by kernel_rfl) (by kernel_rfl) (by kernel_rfl) (fun _ _ _ h => h) (.inl ⟨rfl, fun V hV => ?_⟩) hS0 ?_
      · first | (obtain ⟨r0, r1⟩ := hV; simp [go_sem, execOp, kI]; done) | simp [go_sem, execOp]
      try simp only [List.setIfInBounds_toArray, List.set_cons_succ, List.set_cons_zero]
      refine wpAnyF_takeD (i := 4) (d := 17) (v := .int .i64 p) (by kernel_rfl) (by decide) rfl rfl (by kernel_rfl) (by kernel_rfl) (by kernel_rfl) (fun _ _ _ h => h) (.inl ⟨rfl, fun V hV => ?_⟩) hS0 ?_
      · first | (obtain ⟨r0, r1⟩ := hV; simp [go_sem, execOp, r0]; done) | simp [go_sem, execOp]
      try simp only [List.setIfInBounds_toArray, List.set_cons_succ, List.set_cons_zero]
      refine wpAnyF_takeD (i := 5) (d := 18) (v := .slice (some ⟨b2, off2, none⟩) n cap2) (by kernel_rfl) (by decide) rfl rfl (by kernel_rfl) (by kernel_rfl) (by kernel_rfl) (fun _ _ _ h => h) (.inl ⟨rfl, fun V hV => ?_⟩) hS0 ?_
      · first | (obtain ⟨r0, r1⟩ := hV; simp [go_sem, execOp]; done) | simp [go_sem, execOp]
      try simp only [List.setIfInBounds_toArray, List.set_cons_succ, List.set_cons_zero]
      refine wpAnyF_takeD (i := 6) (d := 19) (v := .int .i64 (k : Int)) (by kernel_rfl) (by decide) rfl rfl (by kernel_rfl) (by kernel_rfl) (by kernel_rfl) (fun _ _ _ h => h) (.inl ⟨rfl, fun V hV => ?_⟩) hS0 ?_
      · first | (obtain ⟨r0, r1⟩ := hV; simp [go_sem, execOp]; done) | simp [go_sem, execOp]
      try simp only [List.setIfInBounds_toArray, List.set_cons_succ, List.set_cons_zero]
      refine wpAnyF_takeD (i := 7) (d := 20) (v := .pointer (some ⟨b2, off2 + k, none⟩)) (by kernel_rfl) (by decide) rfl rfl (by kernel_rfl) (by kernel_rfl) (by kernel_rfl) (fun _ _ _ h => h) (.inl ⟨rfl, fun V hV => ?_⟩) hS0 ?_
      · first | (obtain ⟨r0, r1⟩ := hV; simp [go_sem, execOp, kI]; done) | simp [go_sem, execOp]
      try simp only [List.setIfInBounds_toArray, List.set_cons_succ, List.set_cons_zero]
      refine wpAnyF_takeD (i := 8) (d := 21) (v := .int .i64 q) (by kernel_rfl) (by decide) rfl rfl (by kernel_rfl) (by kernel_rfl) (by kernel_rfl) (fun _ _ _ h => h) (.inl ⟨rfl, fun V hV => ?_⟩) hS0 ?_
      · first | (obtain ⟨r0, r1⟩ := hV; simp [go_sem, execOp, r1]; done) | simp [go_sem, execOp]
      try simp only [List.setIfInBounds_toArray, List.set_cons_succ, List.set_cons_zero]
      refine wpAnyF_takeD (i := 9) (d := 22) (v := .int .i64 s) (by kernel_rfl) (by decide) rfl rfl (by kernel_rfl) (by kernel_rfl) (by kernel_rfl) (fun _ _ _ h => h) (.inl ⟨rfl, fun V hV => ?_⟩) hS0 ?_
      · first | (obtain ⟨r0, r1⟩ := hV; simp [go_sem, execOp, hsv, hw1]; done) | simp [go_sem, execOp]
      try simp only [List.setIfInBounds_toArray, List.set_cons_succ, List.set_cons_zero]
      refine wpAnyF_step 10 rfl (by kernel_rfl) (fun K hK => ?_)
      go_simp
      have bx : Below wx.heap.size wx (wx.drew.alloc (.cells #[.int .i64 s] 3)) := ((Below.refl _ _).drew).alloc (Nat.le_refl _) _
      refine hK.out _ _ (.inr ⟨(bx.cell (p := ⟨b, off + k, none⟩) lb).trans hc, (bx.cell (p := ⟨b2, off2 + k, none⟩) lb2).trans hc2⟩) ?_
      clear hK K bx
      try simp only [Act.put, List.setIfInBounds_toArray, List.set_cons_succ, List.set_cons_zero]
      refine wpAnyF_step 11 rfl (by kernel_rfl) (fun K hK => ?_)
      refine step_op_append rfl (s := .tmp 13) (x := .tmp 23) (t := 25) rfl rfl rfl HRUN1.out ?_
      refine hK.out _ _ (.inr ⟨ca, cb⟩) ?_
      clear hK K
      try simp only [Act.put, List.setIfInBounds_toArray]
      refine wpAnyF_step 12 rfl (by kernel_rfl) (fun K hK => ?_)
      go_simp
      refine hK.out _ _ (.inl rfl) ?_
      clear hK K hS0
      refine wpAnyF_done (by kernel_rfl) ?_ _
      try simp only [Act.put, List.setIfInBounds_toArray, List.set_cons_succ, List.set_cons_zero]
      go_wp2_with fail
      go_roundw
      case rel => exact ⟨k + 1, by omega, by go_num, hidE (by rw [HSUC.out]; exact HO5.out), HB5⟩
      case measure => simp [intOf]; omega
    · obtain rfl : k = n := by omega
      go_wp2_with fail
      go_ret
      exact ⟨⟨_, rfl, by rw [HE.out]; exact HO.out⟩, HBB.out⟩
end Go.Proofs.YthjmkmjojlfejaaGreat

namespace Go.Proofs.YthjmkmjojlfejaaGreat
open Go Go.RowKit Go.Shelf
set_option maxRecDepth 100000 in
set_option maxHeartbeats 8000000 in
theorem stakes5E_any (w : World) (fr up : Int) (a : Option Addr) (cap : Nat) (claims : List Int) (hl : claims.length ≤ 9223372036854775807) (h : IntsAt w a claims) :
    Calls Tryz.prog 31 #[.int .i64 fr, .int .i64 up, .slice a claims.length cap] w fun e w' => ListErr (stakesE fr up claims).1 (stakesE fr up claims).2 w.heap.size e w' ∧ Below w.heap.size w w' := by
  obtain ⟨Q, hQ⟩ : ∃ Q, stakesE fr up claims = Q := ⟨_, rfl⟩
  rw [hQ]
  unfold stakesE at hQ
  have H := hidE h
  have HQ := hidE hQ
  clear h hQ
  go_enter Tryz.func31, Tryz.ntmps31
  go_wp2_with fail
  refine (within5_any fr 0 100000 w).mono ?_
  rintro e w1 ⟨rfl, rfl⟩
  cases hq1 : inR fr 0 100000 with
  | false =>
    obtain rfl : ([], (1 : Int)) = Q := by have := HQ.out; rw [if_pos (.inl hq1)] at this; exact this
    clear hq1
    go_wp2_with fail
    go_ret2
    exact ⟨⟨.slice none 0 0, rfl, World.ownsRow_nil _ _ _ _⟩, Below.refl _ _⟩
  | true =>
    go_wp2_with fail
    refine (within5_any up 0 100000 w).mono ?_
    rintro e w2 ⟨rfl, rfl⟩
    cases hq2 : inR up 0 100000 with
    | false =>
      obtain rfl : ([], (1 : Int)) = Q := by have := HQ.out; rw [if_pos (.inr hq2)] at this; exact this
      clear hq1 hq2
      go_wp2_with fail
      go_ret2
      exact ⟨⟨.slice none 0 0, rfl, World.ownsRow_nil _ _ _ _⟩, Below.refl _ _⟩
    | true =>
      have b1 := inR_bd hq1
      have b2 := inR_bd hq2
      have hQ2 := HQ.out
      rw [if_neg (by rw [hq1, hq2]; simp)] at hQ2
      rw [Int.max_comm] at hQ2
      obtain ⟨T, hT⟩ : ∃ T, max (up - fr) (fr - up) = T := ⟨_, rfl⟩
      have hTb : 0 ≤ T ∧ T ≤ 100000 := by omega
      rw [hT] at hQ2
      have hw1 : IntKind.i64.wrap (fr - up) = fr - up := IntWalk.i64_in _ (by omega)
      have hw2 : IntKind.i64.wrap (up - fr) = up - fr := IntWalk.i64_in _ (by omega)
      have HSH := hidE (shares5E_any w T a cap claims hl H.out)
      obtain ⟨E, hE⟩ : ∃ E, checkSharesP T claims = E := ⟨_, rfl⟩
      have HE := hidE hE
      have HQ2 := hidE hQ2
      clear hq1 hq2 hQ2 HQ hE
      go_wp2_with fail
      refine HSH.out.mono ?_
      rintro e w3 ⟨hle, hb3⟩
      unfold sharesE at hle
      rw [HE.out] at hle
      have B3 := hidE hb3
      clear hb3 HSH
      by_cases hz : E = 0
      · rw [if_pos hz] at hle
        obtain ⟨v, rfl, hown⟩ := hle
        have hQ3 := HQ2.out
        rw [HE.out, if_neg (fun h => h hz)] at hQ3
        obtain ⟨h1, h2, h3, h4⟩ := checkShares_ok (HE.out.trans hz)
        have hlen := sharesP_len T claims
        obtain ⟨L, hL⟩ : ∃ L, sharesP T claims = L := ⟨_, rfl⟩
        have hbe : ∀ x ∈ L, 0 ≤ x ∧ x ≤ 100000 := fun x hx => by rw [← hL] at hx; have := shares_le h4 x hx; omega
        have hsum := sharesP_sum h4
        have hnn := shares_nonneg h4
        rw [hL] at hown hlen hQ3 hsum hnn
        have HTK := hidE (fun k => isum_take_le hnn k)
        have HTN := hidE (fun k => isum_nonneg (l := L.take k) (fun x hx => hnn x (List.mem_of_mem_take hx)))
        rw [hsum] at HTK
        rw [← hlen] at hQ3
        obtain ⟨o, c, rfl, hia, _⟩ := intsAt_of_owns hown
        have HIA := hidE hia
        have HBE := hidE hbe
        have HLEN := hidE hlen
        have HLL := hidE h1
        subst hz
        rw [← hlen]
        obtain ⟨n, hn⟩ : ∃ n, L.length = n := ⟨_, rfl⟩
        have HN := hidE hn
        rw [hn] at hQ3 ⊢
        have HQ3 := hidE hQ3
        have hn50 : n ≤ 50 := by have := HN.out; have := HLEN.out; have := HLL.out; omega
        clear hsum hnn hQ3 h1 h2 h3 h4 hL hbe hown hia hlen hn HE HQ2
        go_wp2_with fail
        go_loopw [11, 12, 13] (fun v t i wr => ∃ k : Nat, k ≤ n ∧ i = .int .i64 k ∧ t = .int .i64 (stakeAt fr up L k) ∧ Hid (wr.ownsRow w3.heap.size 3 1 v (stakesTo fr up L k).length (intsV (stakesTo fr up L k))) ∧ Hid (Below w3.heap.size w3 wr)) (fun _ _ i _ => n - (intOf i).toNat)
        case atStart => exact ⟨0, Nat.zero_le _, rfl, by unfold stakeAt; simp [isum], hidE (World.ownsRow_nil _ _ _ _), hidE (Below.refl _ _)⟩
        case round =>
          obtain ⟨k, hk, rfl, rfl, HO, HBB⟩ := hrel
          obtain ⟨wx, rfl⟩ : ∃ x : World, x = wr := ⟨wr, rfl⟩
          by_cases hlt : k < n
          · have hkL : k < L.length := by rw [HN.out]; exact hlt
            obtain ⟨b, off, rfl, hbl, hc⟩ := HIA.out.at hkL
            rw [← HBB.out.cell hbl] at hc
            have hv := HBE.out _ (List.getElem_mem hkL)
            have hst := stakeAt_succ (fr := fr) (up := up) hkL
            have hS := stakesTo_succ fr up L k
            have a0 := HTK.out k
            have a1 := HTK.out (k + 1)
            have a2 := HTN.out k
            have a3 := HTN.out (k + 1)
            have hb0 : -300000 ≤ stakeAt fr up L k ∧ stakeAt fr up L k ≤ 300000 := by unfold stakeAt; split <;> omega
            have hb1 : -300000 ≤ stakeAt fr up L (k + 1) ∧ stakeAt fr up L (k + 1) ≤ 300000 := by unfold stakeAt; split <;> omega
            obtain ⟨q, hq⟩ : ∃ q, L[k]'hkL = q := ⟨_, rfl⟩
            rw [hq] at hc hv hst
            obtain ⟨s0, hs0⟩ : ∃ s, stakeAt fr up L k = s := ⟨_, rfl⟩
            obtain ⟨s1, hs1⟩ : ∃ s, stakeAt fr up L (k + 1) = s := ⟨_, rfl⟩
            rw [hs0, hs1] at hst
            rw [hs1] at hS hb1
            rw [hs0] at hb0 ⊢
            have HS1 := hidE hs1
            obtain ⟨v5, wa, hrun1, own5, hbx, _⟩ := append_int HO.out s1 (by rw [stakesTo_len]; omega) HBB.out.size
            have HRUN1 := hidE hrun1
            have HO5 := hidE own5
            have HB5 := hidE (HBB.out.trans hbx)
            have HSS := hidE hS
            clear hrun1 own5 hbx hS hs0 hs1 hq a0 a1 a2 a3
            by_cases hf : up < fr
            · rw [if_pos hf] at hst
              have e1 : s1 = s0 - q := by omega
              subst e1
              have hws : IntKind.i64.wrap (s0 - q) = s0 - q := IntWalk.i64_in _ (by omega)
              have d0 : decide (up ≥ fr) = false := by simp; omega
              have d0' : decide (fr ≤ up) = false := by simp; omega
              clear hst hf
              go_wp2_with (at_builtin; (refine wpList_op_append rfl (s := .tmp 59) (x := .tmp 61) (t := 25) rfl rfl rfl HRUN1.out ?_))
              go_roundw
              case rel => exact ⟨k + 1, by omega, by go_num, by rw [HS1.out], hidE (by rw [HSS.out]; exact HO5.out), HB5⟩
              case measure => simp [intOf]; omega
            · rw [if_neg hf] at hst
              subst hst
              have hws : IntKind.i64.wrap (s0 + q) = s0 + q := IntWalk.i64_in _ (by omega)
              have d0 : decide (up ≥ fr) = true := by simp; omega
              have d0' : decide (fr ≤ up) = true := by simp; omega
              clear hf
              go_wp2_with (at_builtin; (refine wpList_op_append rfl (s := .tmp 59) (x := .tmp 61) (t := 25) rfl rfl rfl HRUN1.out ?_))
              go_roundw
              case rel => exact ⟨k + 1, by omega, by go_num, by rw [HS1.out], hidE (by rw [HSS.out]; exact HO5.out), HB5⟩
              case measure => simp [intOf]; omega
          · obtain rfl : k = n := by omega
            go_wp2_with fail
            go_ret2
            rw [← HQ3.out]
            exact ⟨⟨_, rfl, HO.out.mono B3.out.size⟩, B3.out.trans (HBB.out.mono B3.out.size)⟩
      · rw [if_neg hz] at hle
        obtain ⟨v, rfl, hown⟩ := hle
        have hz3 : (E != 0) = true := by simpa using hz
        have hQ3 := HQ2.out
        rw [HE.out, if_pos hz] at hQ3
        subst hQ3
        clear hown HQ2 HE
        go_wp2_with fail
        go_ret2
        exact ⟨⟨.slice none 0 0, rfl, World.ownsRow_nil _ _ _ _⟩, B3.out⟩
def nextTo (ranks : List Int) (last : Int) : Nat → Int
  | 0 => -1
  | k + 1 => if last < ranks.getD k 0 ∧ (nextTo ranks last k < 0 ∨ ranks.getD k 0 < nextTo ranks last k) then ranks.getD k 0 else nextTo ranks last k
theorem nextTo_spec (ranks : List Int) (last : Int) (hp : ∀ j, 0 ≤ ranks.getD j 0) : ∀ k, (nextTo ranks last k = -1 ∧ ∀ j, j < k → ranks.getD j 0 ≤ last) ∨ (0 ≤ nextTo ranks last k ∧ last < nextTo ranks last k ∧ (∃ j, j < k ∧ ranks.getD j 0 = nextTo ranks last k) ∧ ∀ j, j < k → last < ranks.getD j 0 → nextTo ranks last k ≤ ranks.getD j 0)
  | 0 => .inl ⟨rfl, fun j h => by omega⟩
  | k + 1 => by
    have ih := nextTo_spec ranks last hp k
    have hk := hp k
    unfold nextTo
    by_cases hc : last < ranks.getD k 0 ∧ (nextTo ranks last k < 0 ∨ ranks.getD k 0 < nextTo ranks last k)
    · rw [if_pos hc]
      refine .inr ⟨hk, hc.1, ⟨k, by omega, rfl⟩, fun j hj hl => ?_⟩
      by_cases e : j = k
      · subst e; exact Int.le_refl _
      · rcases ih with ⟨_, i2⟩ | ⟨i1, _, _, i4⟩
        · have := i2 j (by omega); omega
        · have := i4 j (by omega) hl; omega
    · rw [if_neg hc]
      rcases ih with ⟨i1, i2⟩ | ⟨i1, i2, ⟨j, hj, e⟩, i4⟩
      · refine .inl ⟨i1, fun j hj => ?_⟩
        by_cases e : j = k
        · subst e; omega
        · exact i2 j (by omega)
      · refine .inr ⟨i1, i2, ⟨j, by omega, e⟩, fun i hi hl => ?_⟩
        by_cases e : i = k
        · subst e; omega
        · exact i4 i (by omega) hl
/-- The last one of those that were looked at. -/
def lastOf (D : List Int) : Int := if D = [] then -1 else D.getD (D.length - 1) 0
theorem lastOf_snoc (D : List Int) (r : Int) : lastOf (D ++ [r]) = r := by
  unfold lastOf
  rw [if_neg (by simp)]
  simp [List.getD_eq_getElem?_getD]
theorem le_lastOf {D l : List Int} (hD : (D ++ l).Pairwise (· < ·)) : ∀ x ∈ D, x ≤ lastOf D := by
  intro x hx
  obtain ⟨i, hi, rfl⟩ := List.getElem_of_mem hx
  unfold lastOf
  have hne : D ≠ [] := fun e => by rw [e] at hi; simp at hi
  rw [if_neg hne, List.getD_eq_getElem?_getD, List.getElem?_eq_getElem (by omega), Option.getD_some]
  have hp := List.pairwise_iff_getElem.1 (List.pairwise_append.1 hD).1
  by_cases e : i = D.length - 1
  · simp only [e]; exact Int.le_refl _
  · exact Int.le_of_lt (hp i (D.length - 1) hi (by omega) (by omega))
theorem next_eq {ranks : List Int} {D l : List Int} (hD : D ++ l = orderP ranks) (hp : ∀ j, 0 ≤ ranks.getD j 0) : nextTo ranks (lastOf D) ranks.length = (if l = [] then -1 else l.getD 0 0) := by
  have hasc := orderP_asc ranks
  rw [← hD] at hasc
  have hle := le_lastOf hasc
  have hmem : ∀ j, j < ranks.length → ranks.getD j 0 ∈ D ++ l := fun j hj => by
    rw [hD]
    exact mem_orderP.2 (by rw [List.getD_eq_getElem?_getD, List.getElem?_eq_getElem hj]; exact List.getElem_mem _)
  cases l with
  | nil =>
    rw [if_pos rfl]
    rcases nextTo_spec ranks (lastOf D) hp ranks.length with ⟨h, _⟩ | ⟨_, h2, ⟨j, hj, e⟩, _⟩
    · exact h
    · have := hmem j hj
      rw [List.append_nil] at this
      have := hle _ this
      omega
  | cons r l =>
    rw [if_neg (by simp)]
    show _ = r
    obtain ⟨h1, h2, h3⟩ := List.pairwise_append.1 hasc
    have hr : r ∈ ranks := mem_orderP.1 (by rw [← hD]; simp)
    obtain ⟨i, hi, e⟩ := List.getElem_of_mem hr
    have e' : ranks.getD i 0 = r := by rw [List.getD_eq_getElem?_getD, List.getElem?_eq_getElem hi]; exact e
    have hlr : lastOf D < r := by
      unfold lastOf
      split
      · have := hp i; omega
      · rename_i hne
        have hd : D.length - 1 < D.length := by
          have : 0 < D.length := List.length_pos_iff.2 hne
          omega
        rw [List.getD_eq_getElem?_getD, List.getElem?_eq_getElem hd]
        exact h3 _ (List.getElem_mem hd) r (List.mem_cons_self ..)
    rcases nextTo_spec ranks (lastOf D) hp ranks.length with ⟨_, g⟩ | ⟨g1, g2, ⟨j, hj, e2⟩, g4⟩
    · have := g i hi; omega
    · have a := g4 i hi (by omega)
      rcases List.mem_append.1 (hmem j hj) with m | m
      · have := hle _ m; omega
      · rcases List.mem_cons.1 m with m | m
        · omega
        · have := (List.pairwise_cons.1 h2).1 _ m; omega
end Go.Proofs.YthjmkmjojlfejaaGreat

namespace Go.Proofs.YthjmkmjojlfejaaGreat
open Go Go.RowKit Go.Shelf
theorem given_start {claims ranks : List Int} {found : Int} (h : 0 ≤ found) : Given claims ranks found [] (rankStart found claims) := by
  refine ⟨h, by simp [rankStart], fun i _ hm => (by cases hm), fun i hi _ => ?_, ?_⟩
  · simp [rankStart, List.getD_eq_getElem?_getD, hi]
  · show isum (List.replicate claims.length 0) + found = found
    rw [isum_replicate_zero]; omega
theorem given_step {claims ranks : List Int} {found r : Int} {D0 l : List Int} {s : Rk} (_hl : ranks.length = claims.length) (hD : D0 ++ r :: l = orderP ranks) (G : Given claims ranks found D0 s) (hle : isum (ofP claims ranks r) ≤ s.left) :
    Given claims ranks found (D0 ++ [r]) ⟨s.left - isum (ofP claims ranks r), out2P s.out (ofP claims ranks r)⟩ := by
  have hasc := orderP_asc ranks
  rw [← hD, List.pairwise_append] at hasc
  obtain ⟨_, _, hasc3⟩ := hasc
  have hrD : r ∉ D0 := fun h => by have := hasc3 r h r (List.mem_cons_self ..); omega
  have hown : ∀ i, i < claims.length → (ofP claims ranks r).getD i 0 = if ranks.getD i 0 = r then claims.getD i 0 else 0 := by
    intro i hi
    simp [ofP, List.getD_eq_getElem?_getD, hi]
  have hol : (ofP claims ranks r).length = s.out.length := by rw [G.len]; simp [ofP]
  refine ⟨by simp only; omega, (out2_len _ _).trans G.len, fun i hi hm => ?_, fun i hi hm => ?_, ?_⟩
  · show (out2P s.out (ofP claims ranks r)).getD i 0 = _
    rw [out2_get (by rw [G.len]; exact hi), hown i hi]
    rcases List.mem_append.1 hm with h | h
    · rw [G.inn i hi h, if_neg (fun e => hrD (by rw [← e]; exact h))]; omega
    · have e := List.mem_singleton.1 h
      rw [G.out i hi (by rw [e]; exact hrD), if_pos e]; omega
  · show (out2P s.out (ofP claims ranks r)).getD i 0 = _
    rw [List.mem_append, not_or] at hm
    rw [out2_get (by rw [G.len]; exact hi), hown i hi, G.out i hi hm.1, if_neg (fun e => hm.2 (List.mem_singleton.2 e))]; rfl
  · show isum (out2P s.out (ofP claims ranks r)) + (s.left - isum (ofP claims ranks r)) = found
    rw [isum_out2 hol]
    have := G.sum
    omega
theorem given_bd {claims ranks : List Int} {found : Int} {D0 : List Int} {s : Rk} (hc : ∀ x ∈ claims, 0 ≤ x ∧ x ≤ 1000000) (G : Given claims ranks found D0 s) : ∀ j, 0 ≤ s.out.getD j 0 ∧ s.out.getD j 0 ≤ 1000000 := by
  intro j
  by_cases hj : j < claims.length
  · have hcj : 0 ≤ claims.getD j 0 ∧ claims.getD j 0 ≤ 1000000 := by
      rw [List.getD_eq_getElem?_getD, List.getElem?_eq_getElem hj]
      exact hc _ (List.getElem_mem hj)
    by_cases hm : ranks.getD j 0 ∈ D0
    · rw [G.inn j hj hm]; exact hcj
    · rw [G.out j hj hm]; decide
  · rw [List.getD_eq_getElem?_getD, List.getElem?_eq_none (by rw [G.len]; omega)]; decide
theorem ofP_bd {claims ranks : List Int} (hc : ∀ x ∈ claims, 0 ≤ x ∧ x ≤ 1000000) (r : Int) : ∀ x ∈ ofP claims ranks r, 0 ≤ x ∧ x ≤ 1000000 := by
  intro x hx
  obtain ⟨i, _, rfl⟩ := List.mem_map.1 hx
  split
  · by_cases hi : i < claims.length
    · rw [List.getD_eq_getElem?_getD, List.getElem?_eq_getElem hi]; exact hc _ (List.getElem_mem hi)
    · rw [List.getD_eq_getElem?_getD, List.getElem?_eq_none (by omega)]; decide
  · decide
theorem getD_of_all {l : List Int} {lo hi : Int} (h0 : lo ≤ 0 ∧ 0 ≤ hi) (h : ∀ x ∈ l, lo ≤ x ∧ x ≤ hi) (j : Nat) : lo ≤ l.getD j 0 ∧ l.getD j 0 ≤ hi := by
  by_cases hj : j < l.length
  · rw [List.getD_eq_getElem?_getD, List.getElem?_eq_getElem hj]; exact h _ (List.getElem_mem hj)
  · rw [List.getD_eq_getElem?_getD, List.getElem?_eq_none (by omega)]; exact h0
set_option maxRecDepth 100000 in
set_option maxHeartbeats 32000000 in
theorem ranked5_any (w : World) (found : Int) (aC : Option Addr) (cC : Nat) (claims : List Int) (aR : Option Addr) (cR : Nat) (ranks : List Int) (hlC : claims.length ≤ 9223372036854775807) (hlR : ranks.length ≤ 9223372036854775807) (hC : IntsAt w aC claims) (hR : IntsAt w aR ranks) :
    Calls Tryz.prog 29 #[.int .i64 found, .slice aC claims.length cC, .slice aR ranks.length cR] w fun e w' => ListErr (rankedE found claims ranks).1 (rankedE found claims ranks).2 w.heap.size e w' ∧ Below w.heap.size w w' := by
  rw [ranked_ref]
  obtain ⟨Q, hQ⟩ : ∃ Q, ranked5E found claims ranks = Q := ⟨_, rfl⟩
  rw [hQ]
  unfold ranked5E at hQ
  have HQ := hidE hQ
  have HC := hidE hC
  have HR := hidE hR
  have HSD := hidE (shared_any w found aC cC claims hlC hC)
  obtain ⟨E, hE⟩ : ∃ E, checkSharesP found claims = E := ⟨_, rfl⟩
  rw [hE] at HSD HQ
  have HE := hidE hE
  clear hQ hC hR hE
  go_enter Tryz.func29, Tryz.ntmps29
  go_wp2_with fail
  refine HSD.out.mono ?_
  rintro e w1 ⟨rfl, rfl⟩
  obtain ⟨w, rfl⟩ : ∃ x : World, x = w1 := ⟨w1, rfl⟩
  clear HSD
  by_cases hz : E = 0
  rotate_left
  · have hz3 : (E != 0) = true := by simpa using hz
    have hQ2 := HQ.out
    rw [if_pos hz] at hQ2
    subst hQ2
    clear HQ hz
    go_wp2_with fail
    go_ret2
    exact ⟨⟨.slice none 0 0, rfl, World.ownsRow_nil _ _ _ _⟩, Below.refl _ _⟩
  subst hz
  have hQ2 := HQ.out
  rw [if_neg (fun h => h rfl)] at hQ2
  obtain ⟨q1, q2, q3, q4⟩ := checkShares_ok HE.out
  have HQ2 := hidE hQ2
  have HCB := hidE q3
  have HSH := hidE q4
  clear hQ2 HQ q3 q4
  -- the ranks are numbers of ranks
  obtain ⟨m, hm⟩ : ∃ m, ranks.length = m := ⟨_, rfl⟩
  obtain ⟨n, hn⟩ : ∃ n, claims.length = n := ⟨_, rfl⟩
  have HM := hidE hm
  have HN := hidE hn
  rw [hm] at hlR ⊢
  rw [hn] at hlC q1 ⊢
  have HEQ : Hid (((m : Int) == (n : Int)) = decide (ranks.length = claims.length)) := hidE (by
    rw [hm, hn]
    by_cases e : m = n
    · subst e; simp
    · have e2 : ((m : Int) == (n : Int)) = false := by simp; omega
      rw [e2]; simp [e])
  obtain ⟨B0, hB0⟩ : ∃ B, ((m : Int) == (n : Int)) = B := ⟨_, rfl⟩
  have HB0 := hidE hB0
  rw [hB0] at HEQ
  clear hm hn
  go_wp2_with fail
  go_loopw [9, 10] (fun v i wr => ∃ k : Nat, k ≤ m ∧ i = .int .i64 k ∧ v = .bool (B0 && (ranks.take k).all fun x => inR x 0 1000000) ∧ wr = w) (fun _ i _ => m - (intOf i).toNat)
  case atStart => exact ⟨0, Nat.zero_le _, rfl, by simp, rfl⟩
  case round =>
    obtain ⟨k, hk, rfl, rfl, rfl⟩ := hrel
    obtain ⟨w, rfl⟩ : ∃ x : World, x = wr := ⟨wr, rfl⟩
    by_cases hlt : k < m
    · have hkR : k < ranks.length := by rw [HM.out]; exact hlt
      obtain ⟨b, off, rfl, hbl, hc⟩ := HR.out.at hkR
      have hsu : ((ranks.take (k + 1)).all fun x => inR x 0 1000000) = (((ranks.take k).all fun x => inR x 0 1000000) && inR ranks[k] 0 1000000) := by
        rw [List.take_succ_eq_append_getElem hkR, List.all_append]; simp
      obtain ⟨p, hp⟩ : ∃ p, ranks[k]'hkR = p := ⟨_, rfl⟩
      rw [hp] at hc hsu
      obtain ⟨A, hA⟩ : ∃ A, ((ranks.take k).all fun x => inR x 0 1000000) = A := ⟨_, rfl⟩
      rw [hA] at hsu ⊢
      have HSU := hidE hsu
      have HLT := hidE hlt
      clear hp hA hsu
      cases hBA : (B0 && A) with
      | true =>
        go_wp2_with fail
        refine (within5_any p 0 1000000 _).mono ?_
        rintro e w5 ⟨rfl, hw5⟩
        rw [← hw5]
        clear hw5
        go_wp2_with fail
        go_roundw
        case rel => exact ⟨k + 1, HLT.out, by go_num, by rw [HSU.out, ← Bool.and_assoc, hBA]; simp, trivial⟩
        case measure => have := HLT.out; simp [intOf]; omega
      | false =>
        go_wp2_with fail
        go_roundw
        case rel => exact ⟨k + 1, HLT.out, by go_num, by rw [HSU.out, ← Bool.and_assoc, hBA]; simp, trivial⟩
        case measure => have := HLT.out; simp [intOf]; omega
    · obtain rfl : k = m := by omega
      have hall : ranks.take k = ranks := by rw [List.take_of_length_le]; rw [HM.out]; exact Nat.le_refl _
      rw [hall]
      clear hall
      cases hBA : (B0 && ranks.all fun x => inR x 0 1000000) with
      | false =>
        have hQ3 := HQ2.out
        rw [if_pos (by
          rw [Bool.and_eq_false_iff] at hBA
          rcases hBA with h | h
          · left
            have := HEQ.out
            rw [h] at this
            simpa using this.symm
          · exact .inr h)] at hQ3
        subst hQ3
        clear hBA HQ2
        go_wp2_with fail
        go_ret2
        exact ⟨⟨.slice none 0 0, rfl, World.ownsRow_nil _ _ _ _⟩, Below.refl _ _⟩
      | true =>
        rw [Bool.and_eq_true] at hBA
        obtain ⟨g1, g2⟩ := hBA
        have hlen : ranks.length = claims.length := by
          have := HEQ.out
          rw [g1] at this
          simpa using this.symm
        have hQ3 := HQ2.out
        rw [if_neg (by rw [g2]; simp [hlen])] at hQ3
        obtain rfl : k = n := by rw [← HM.out, ← HN.out, hlen]
        have hrb : ∀ x ∈ ranks, 0 ≤ x ∧ x ≤ 1000000 := fun x hx => by
          have := List.all_eq_true.1 g2 x hx
          unfold inR at this
          simpa using this
        have HRB := hidE (getD_of_all (l := ranks) (by decide) hrb)
        have HLN := hidE hlen
        have HQ3 := hidE hQ3
        have hk50 : k ≤ 50 := q1
        clear g1 g2 hlen hQ3 hrb HQ2 HEQ HB0 hlt hk
        have hmk3 := fun W => run_make_row' (P := Tryz.prog) 25 3 (.int .i64 0) 8 Tryz.underlying25 Tryz.info3' rfl .i64 .i64 k (by omega) (by omega) W
        go_upto_region 13 with fail
        obtain ⟨W1, hW1⟩ : ∃ W, W = w.alloc (.cells (madeCells #[.int .i64 0] k) 3) := ⟨_, rfl⟩
        rw [← hW1]
        have BW1 := hidE (show Below w.heap.size w W1 by rw [hW1]; exact (Below.refl _ _).alloc (Nat.le_refl _) _)
        have HO1 := hidE (show W1.ownsRow w.heap.size 3 1 (.slice (some ⟨w.heap.size, 0, none⟩) k k) (rankStart found claims).out.length (intsV (rankStart found claims).out) by
          have hl9 : (rankStart found claims).out.length = k := by simp [rankStart, HN.out]
          have hh : W1.heap[w.heap.size]? = some (.cells (rowA (rankStart found claims).out) 3 (0,0)) := by
            rw [hW1, heap_alloc_new, madeInts]
            show _ = some (Obj.cells (rowA (List.replicate claims.length 0)) 3 (0,0))
            rw [HN.out]
          have := owns_of_block (Nat.le_refl w.heap.size) hh (by rw [hl9]; omega)
          rw [hl9] at this ⊢
          exact this)
        clear hW1 hmk3
        go_wp2_with fail
        go_loopw [11, 12, 13] (fun v t la wr => ∃ (D l : List Int) (s : Rk) (o : Option Addr) (c : Nat), v = .slice o k c ∧ t = .int .i64 s.left ∧ la = .int .i64 (lastOf D) ∧ Hid (D ++ l = orderP ranks) ∧ Hid (Given claims ranks found D s) ∧ Hid (ref5Go claims ranks l (lastOf D) s = Q) ∧ Hid (wr.ownsRow w.heap.size 3 1 (.slice o k c) s.out.length (intsV s.out)) ∧ Hid (Below w.heap.size w wr) ∧ Hid (-1 ≤ lastOf D ∧ lastOf D ≤ 1000000)) (fun _ _ la _ => (1000001 - intOf la).toNat)
        case atStart => exact ⟨[], orderP ranks, rankStart found claims, _, _, rfl, rfl, rfl, hidE rfl, hidE (given_start q2.1), HQ3, HO1, BW1, hidE (by decide)⟩
        case round =>
          obtain ⟨D, l, s, o, c, rfl, rfl, rfl, HD, HG, HRF, HOW, HBB, HLA⟩ := hrel
          obtain ⟨wx, rfl⟩ : ∃ x : World, x = wr := ⟨wr, rfl⟩
          obtain ⟨la, hla⟩ : ∃ z, lastOf D = z := ⟨_, rfl⟩
          rw [hla] at HRF HLA ⊢
          have HLD := hidE hla
          clear hla
          go_wp2_with fail
          go_loopw [14, 15] (fun nx i wr => ∃ j : Nat, j ≤ k ∧ i = .int .i64 j ∧ nx = .int .i64 (nextTo ranks la j) ∧ wr = wx) (fun _ i _ => k - (intOf i).toNat)
          case atStart => exact ⟨0, Nat.zero_le _, rfl, rfl, rfl⟩
          case round =>
            obtain ⟨j, hj, rfl, rfl, rfl⟩ := hrel
            obtain ⟨wx, rfl⟩ : ∃ x : World, x = wr := ⟨wr, rfl⟩
            by_cases hjk : j < k
            · have hjR : j < ranks.length := by rw [HM.out]; exact hjk
              obtain ⟨b, off, rfl, hbl, hc⟩ := HR.out.at hjR
              rw [← HBB.out.cell hbl, ← getD_get ranks 0 hjR] at hc
              have hnx : nextTo ranks la (j + 1) = if la < ranks.getD j 0 ∧ (nextTo ranks la j < 0 ∨ ranks.getD j 0 < nextTo ranks la j) then ranks.getD j 0 else nextTo ranks la j := rfl
              obtain ⟨x, hx⟩ : ∃ x, ranks.getD j 0 = x := ⟨_, rfl⟩
              obtain ⟨nx, hnxv⟩ : ∃ x, nextTo ranks la j = x := ⟨_, rfl⟩
              rw [hx] at hc hnx
              rw [hnxv] at hnx ⊢
              have HJ := hidE hjk
              clear hx hnxv
              by_cases h1 : la < x
              · have d1 : decide (x > la) = true := by simpa using h1
                have d1' : decide (la < x) = true := by simpa using h1
                by_cases h2 : nx < 0
                · have d2 : decide (nx < 0) = true := by simpa using h2
                  rw [if_pos ⟨h1, .inl h2⟩] at hnx
                  have HNX := hidE hnx
                  clear hnx h1 h2
                  go_wp2_with fail
                  go_roundw
                  case rel => exact ⟨j + 1, HJ.out, by go_num, by rw [HNX.out], trivial⟩
                  case measure => have := HJ.out; simp [intOf]; omega
                · have d2 : decide (nx < 0) = false := by simpa using h2
                  by_cases h3 : x < nx
                  · have d3 : decide (x < nx) = true := by simpa using h3
                    rw [if_pos ⟨h1, .inr h3⟩] at hnx
                    have HNX := hidE hnx
                    clear hnx h1 h2 h3
                    go_wp2_with fail
                    go_roundw
                    case rel => exact ⟨j + 1, HJ.out, by go_num, by rw [HNX.out], trivial⟩
                    case measure => have := HJ.out; simp [intOf]; omega
                  · have d3 : decide (x < nx) = false := by simpa using h3
                    rw [if_neg (by omega)] at hnx
                    have HNX := hidE hnx
                    clear hnx h1 h2 h3
                    go_wp2_with fail
                    go_roundw
                    case rel => exact ⟨j + 1, HJ.out, by go_num, by rw [HNX.out], trivial⟩
                    case measure => have := HJ.out; simp [intOf]; omega
              · have d1 : decide (x > la) = false := by simpa using h1
                have d1' : decide (la < x) = false := by simpa using h1
                rw [if_neg (by omega)] at hnx
                have HNX := hidE hnx
                clear hnx h1
                go_wp2_with fail
                go_roundw
                case rel => exact ⟨j + 1, HJ.out, by go_num, by rw [HNX.out], trivial⟩
                case measure => have := HJ.out; simp [intOf]; omega
            · obtain rfl : j = k := by omega
              have hne := next_eq HD.out (fun j => (HRB.out j).1)
              rw [HLD.out, HM.out] at hne
              have hsb : ∀ r, 0 ≤ isum (ofP claims ranks r) ∧ ∀ q, -9000000000000000000 ≤ isum ((ofP claims ranks r).take q) ∧ isum ((ofP claims ranks r).take q) ≤ 9000000000000000000 := fun r => by
                refine ⟨isum_nonneg (fun x hx => (ofP_bd HCB.out r x hx).1), fun q => ?_⟩
                have := isum_take_bd (c := 1000000) (by decide) (ofP_bd (ranks := ranks) HCB.out r) q
                have hq := isum_le (l := (ofP claims ranks r).take q) (c := 1000000) (fun x hx => (ofP_bd HCB.out r x (List.mem_of_mem_take hx)).2)
                have hq2 : ((ofP claims ranks r).take q).length ≤ 50 := by
                  rw [List.length_take]
                  have : (ofP claims ranks r).length = claims.length := by simp [ofP]
                  have := HN.out
                  omega
                have hq3 := isum_nonneg (l := (ofP claims ranks r).take q) (fun x hx => (ofP_bd HCB.out r x (List.mem_of_mem_take hx)).1)
                omega
              have HSB := hidE hsb
              have hol : ∀ r, (ofP claims ranks r).length = j := fun r => by simp [ofP, HN.out]
              have HOL := hidE hol
              have hsl : s.out.length = j := HG.out.len.trans HN.out
              have HSL := hidE hsl
              have HOF := hidE (fun (W : World) (r : Int) (hb : Below w.heap.size w W) => of_any W aC cC claims aR cR ranks r (by rw [HN.out]; omega) HLN.out (HC.out.below hb (Nat.le_refl _)) (HR.out.below hb (Nat.le_refl _)))
              rw [HM.out, HN.out] at HOF
              have hout : ∀ (W : World) (ys : List Int) (o2 : Option Addr) (c2 : Nat), ys.length = j → IntsAt W o s.out → IntsAt W o2 ys → (∀ q, 0 ≤ ys.getD q 0 ∧ ys.getD q 0 ≤ 100000000000) → Calls Tryz.prog 97 #[.slice o j c, .slice o2 j c2] W fun e w' => IntsOut (out2P s.out ys) W.heap.size e w' ∧ Below W.heap.size W w' := fun W ys o2 c2 hy h1 h2 h3 => by
                have := out2_any W o c s.out o2 c2 ys (by rw [hsl]; omega) (by rw [hsl, hy]) h1 h2 (fun q => by have a := given_bd HCB.out HG.out q; have b := h3 q; omega)
                rw [hsl, hy] at this
                exact this
              have HOUT := hidE hout
              have HSHA := hidE (fun (W : World) (r : Int) (o2 : Option Addr) (c2 : Nat) (hi : IntsAt W o2 (ofP claims ranks r)) (h0 : 0 < isum (ofP claims ranks r)) => show Calls Tryz.prog 98 #[.int .i64 s.left, .slice o2 j c2] W fun e w' => IntsOut (sharesP s.left (ofP claims ranks r)) W.heap.size e w' ∧ Below W.heap.size W w' by
                have hlf := HG.out.left
                have hfd : s.left ≤ found := by
                  have := HG.out.sum
                  have := isum_nonneg (l := s.out) (fun x hx => by
                    obtain ⟨q, hq, rfl⟩ := List.getElem_of_mem hx
                    have := (given_bd HCB.out HG.out q).1
                    rwa [getD_get s.out 0 hq] at this)
                  omega
                have := shares5_any W s.left o2 c2 (ofP claims ranks r) (by rw [HOL.out r]; omega) hi (by omega) (ofP_bd HCB.out r) ⟨hlf, fun x hx => (ofP_bd HCB.out r x hx).1, .inl h0⟩
                rw [HOL.out r] at this
                exact this)
              have HSHB := hidE (fun (r : Int) (h0 : 0 < isum (ofP claims ranks r)) => show (sharesP s.left (ofP claims ranks r)).length = j ∧ ∀ q, 0 ≤ (sharesP s.left (ofP claims ranks r)).getD q 0 ∧ (sharesP s.left (ofP claims ranks r)).getD q 0 ≤ 100000000000 by
                have hlf := HG.out.left
                have hfd : s.left ≤ found := by
                  have := HG.out.sum
                  have := isum_nonneg (l := s.out) (fun x hx => by
                    obtain ⟨q, hq, rfl⟩ := List.getElem_of_mem hx
                    have := (given_bd HCB.out HG.out q).1
                    rwa [getD_get s.out 0 hq] at this)
                  omega
                refine ⟨by rw [sharesP_len]; exact HOL.out r, getD_of_all (by decide) (fun x hx => ?_)⟩
                have := shares_le ⟨hlf, fun x hx => (ofP_bd HCB.out r x hx).1, .inl h0⟩ x hx
                omega)
              have HIO := hidE (show IntsAt wx o s.out by
                obtain ⟨o9, c9, e9, hi9, _⟩ := intsAt_of_owns HOW.out
                simp only [Value.slice.injEq] at e9
                obtain ⟨rfl, _, _⟩ := e9
                exact hi9)
              have hlf0 := HG.out.left
              have hlf1 : s.left ≤ 100000000000 := by
                have := HG.out.sum
                have := isum_nonneg (l := s.out) (fun x hx => by
                  obtain ⟨q, hq, rfl⟩ := List.getElem_of_mem hx
                  have := (given_bd HCB.out HG.out q).1
                  rwa [getD_get s.out 0 hq] at this)
                omega
              obtain ⟨lf, hlf⟩ : ∃ z, s.left = z := ⟨_, rfl⟩
              have HLF := hidE hlf
              rw [hlf] at HSHA HSHB hlf0 hlf1 ⊢
              clear hlf hsb hol hsl hout
              cases l with
              | nil =>
                rw [if_pos rfl] at hne
                rw [hne]
                have hrf := HRF.out
                unfold ref5Go at hrf
                rw [HLF.out] at hrf
                clear hne HRF
                by_cases hl0 : lf = 0
                · rw [if_pos hl0] at hrf
                  subst hrf
                  subst hl0
                  go_wp2_with fail
                  go_ret2
                  exact ⟨⟨_, rfl, HOW.out⟩, HBB.out⟩
                · rw [if_neg hl0] at hrf
                  have d0 : (lf == 0) = false := by simpa using hl0
                  have HOF1 := hidE (HOF.out wx la HBB.out)
                  have HRF := hidE hrf
                  clear hrf HOF
                  go_wp2_with fail
                  refine HOF1.out.mono ?_
                  rintro e w5 ⟨rfl, hg5, hb5⟩
                  have HI5 := hidE (ints_of_row hg5)
                  have HIO5 := hidE (HIO.out.below hb5 (Nat.le_refl _))
                  have B5 := hidE (HBB.out.trans (hb5.mono HBB.out.size))
                  have HS5 := hidE (sum5_any w5 (some ⟨wx.heap.size, 0, none⟩) j (ofP claims ranks la) (by rw [HOL.out la]; omega) HI5.out (fun q _ => (HSB.out la).2 q))
                  rw [HOL.out la] at HS5
                  clear hg5 hb5 HOF1
                  go_wp2_with fail
                  refine HS5.out.mono ?_
                  rintro e w6 ⟨rfl, rfl⟩
                  obtain ⟨w5, rfl⟩ : ∃ x : World, x = w6 := ⟨w6, rfl⟩
                  clear HS5
                  by_cases hs0 : isum (ofP claims ranks la) = 0
                  · have hrf := HRF.out
                    rw [if_pos hs0] at hrf
                    subst hrf
                    have d1 : (isum (ofP claims ranks la) == 0) = true := by simpa using hs0
                    clear hs0
                    go_wp2_with fail
                    go_ret2
                    exact ⟨⟨.slice none 0 0, rfl, World.ownsRow_nil _ _ _ _⟩, B5.out⟩
                  · have hrf := HRF.out
                    rw [if_neg hs0] at hrf
                    have hps : 0 < isum (ofP claims ranks la) := by have := (HSB.out la).1; omega
                    have d1 : (isum (ofP claims ranks la) == 0) = false := by simpa using hs0
                    have HSA := hidE (HSHA.out w5 la (some ⟨wx.heap.size, 0, none⟩) j HI5.out hps)
                    have HSHL := hidE (HSHB.out la hps)
                    have HRF2 := hidE hrf
                    clear hs0 hrf HRF hps
                    go_wp2_with fail
                    refine HSA.out.mono ?_
                    rintro e w7 ⟨⟨v7, rfl, ho7⟩, hb7⟩
                    obtain ⟨o7, c7, rfl, hi7, _⟩ := intsAt_of_owns ho7
                    have B7 := hidE (B5.out.trans (hb7.mono B5.out.size))
                    have HO := hidE (HOUT.out w7 (sharesP lf (ofP claims ranks la)) o7 c7 HSHL.out.1 (HIO5.out.below hb7 (Nat.le_refl _)) hi7 HSHL.out.2)
                    rw [HSHL.out.1]
                    clear ho7 hb7 hi7 HSA
                    go_wp2_with fail
                    refine HO.out.mono ?_
                    rintro e w8 ⟨⟨v8, rfl, ho8⟩, hb8⟩
                    have B8 := hidE (B7.out.trans (hb8.mono B7.out.size))
                    have HO8 := hidE ho8
                    clear ho8 hb8 HO
                    go_wp2_with fail
                    go_ret2
                    rw [← HRF2.out]
                    exact ⟨⟨_, rfl, HO8.out.mono B7.out.size⟩, B8.out⟩
              | cons r l =>
                rw [if_neg (by simp)] at hne
                have hne2 : nextTo ranks la j = r := hne
                rw [hne2]
                have hr0 : 0 ≤ r ∧ r ≤ 1000000 := by
                  have hm : r ∈ ranks := mem_orderP.1 (by rw [← HD.out]; simp)
                  obtain ⟨i, hi, e⟩ := List.getElem_of_mem hm
                  have := HRB.out i
                  rw [getD_get ranks 0 hi, e] at this
                  exact this
                have hlr : la < r := by
                  rcases nextTo_spec ranks la (fun j => (HRB.out j).1) j with ⟨h, _⟩ | ⟨_, h, _⟩
                  · omega
                  · omega
                have d0 : decide (r < 0) = false := by simp; omega
                have hrf := HRF.out
                unfold ref5Go at hrf
                rw [HLF.out] at hrf
                have HRF := hidE hrf
                have HOF1 := hidE (HOF.out wx r HBB.out)
                clear hne hne2 hrf HOF
                go_wp2_with fail
                refine HOF1.out.mono ?_
                rintro e w5 ⟨rfl, hg5, hb5⟩
                have HI5 := hidE (ints_of_row hg5)
                have HIO5 := hidE (HIO.out.below hb5 (Nat.le_refl _))
                have B5 := hidE (HBB.out.trans (hb5.mono HBB.out.size))
                have HS5 := hidE (sum5_any w5 (some ⟨wx.heap.size, 0, none⟩) j (ofP claims ranks r) (by rw [HOL.out r]; omega) HI5.out (fun q _ => (HSB.out r).2 q))
                rw [HOL.out r] at HS5
                clear hg5 hb5 HOF1
                go_wp2_with fail
                refine HS5.out.mono ?_
                rintro e w6 ⟨rfl, rfl⟩
                obtain ⟨w5, rfl⟩ : ∃ x : World, x = w6 := ⟨w6, rfl⟩
                have hsm := (HSB.out r).1
                have hsm2 := (HSB.out r).2 (ofP claims ranks r).length
                rw [List.take_length] at hsm2
                by_cases hlt2 : lf < isum (ofP claims ranks r)
                · have hrf := HRF.out
                  rw [if_pos hlt2] at hrf
                  have hps : 0 < isum (ofP claims ranks r) := by omega
                  have d1 : decide (lf < isum (ofP claims ranks r)) = true := by simpa using hlt2
                  have HSA := hidE (HSHA.out w5 r (some ⟨wx.heap.size, 0, none⟩) j HI5.out hps)
                  have HSHL := hidE (HSHB.out r hps)
                  have HRF2 := hidE hrf
                  clear hlt2 hrf HRF hps HS5
                  go_wp2_with fail
                  refine HSA.out.mono ?_
                  rintro e w7 ⟨⟨v7, rfl, ho7⟩, hb7⟩
                  obtain ⟨o7, c7, rfl, hi7, _⟩ := intsAt_of_owns ho7
                  have B7 := hidE (B5.out.trans (hb7.mono B5.out.size))
                  have HO := hidE (HOUT.out w7 (sharesP lf (ofP claims ranks r)) o7 c7 HSHL.out.1 (HIO5.out.below hb7 (Nat.le_refl _)) hi7 HSHL.out.2)
                  rw [HSHL.out.1]
                  clear ho7 hb7 hi7 HSA
                  go_wp2_with fail
                  refine HO.out.mono ?_
                  rintro e w8 ⟨⟨v8, rfl, ho8⟩, hb8⟩
                  have B8 := hidE (B7.out.trans (hb8.mono B7.out.size))
                  have HO8 := hidE ho8
                  clear ho8 hb8 HO
                  go_wp2_with fail
                  go_ret2
                  rw [← HRF2.out]
                  exact ⟨⟨_, rfl, HO8.out.mono B7.out.size⟩, B8.out⟩
                · have hrf := HRF.out
                  rw [if_neg hlt2] at hrf
                  have d1 : decide (lf < isum (ofP claims ranks r)) = false := by simpa using hlt2
                  have HG2 := hidE (given_step HLN.out HD.out HG.out (by rw [HLF.out]; omega))
                  rw [HLF.out] at HG2
                  have HD2 : Hid ((D ++ [r]) ++ l = orderP ranks) := hidE (by rw [List.append_assoc]; exact HD.out)
                  have HO := hidE (HOUT.out w5 (ofP claims ranks r) (some ⟨wx.heap.size, 0, none⟩) j (HOL.out r) HIO5.out HI5.out (fun q => by
                    have := getD_of_all (lo := 0) (hi := 1000000) (by decide) (ofP_bd (ranks := ranks) HCB.out r) q
                    omega))
                  have HRF2 := hidE hrf
                  have hwl : IntKind.i64.wrap (lf - isum (ofP claims ranks r)) = lf - isum (ofP claims ranks r) := IntWalk.i64_in _ (by omega)
                  have HOS := hidE ((out2_len s.out (ofP claims ranks r)).trans HSL.out)
                  clear hlt2 hrf HRF hsm hsm2
                  go_wp2_with fail
                  refine HO.out.mono ?_
                  rintro e w7 ⟨⟨v7, rfl, ho7⟩, hb7⟩
                  have B7 := hidE (B5.out.trans (hb7.mono B5.out.size))
                  have HI7 := hidE (HI5.out.below hb7 (Nat.le_refl _))
                  have HO7 := hidE (ho7.mono B5.out.size)
                  obtain ⟨o7, c7, rfl, _, _⟩ := intsAt_of_owns ho7
                  rw [HOS.out] at HO7 ⊢
                  have HS7 := hidE (sum5_any w7 (some ⟨wx.heap.size, 0, none⟩) j (ofP claims ranks r) (by rw [HOL.out r]; omega) HI7.out (fun q _ => (HSB.out r).2 q))
                  rw [HOL.out r] at HS7
                  clear ho7 hb7 HO HS5
                  go_wp2_with fail
                  refine HS7.out.mono ?_
                  rintro e w8 ⟨rfl, rfl⟩
                  obtain ⟨w7, rfl⟩ : ∃ x : World, x = w8 := ⟨w8, rfl⟩
                  clear HS7
                  go_wp2_with fail
                  go_roundw
                  case rel => exact ⟨D ++ [r], l, ⟨lf - isum (ofP claims ranks r), out2P s.out (ofP claims ranks r)⟩, o7, c7, rfl, rfl, by rw [lastOf_snoc], HD2, HG2, hidE (by rw [lastOf_snoc]; exact HRF2.out), hidE (by show World.ownsRow _ _ _ _ _ (out2P s.out (ofP claims ranks r)).length _; rw [HOS.out]; exact HO7.out), B7, hidE (by rw [lastOf_snoc]; omega)⟩
                  case measure => simp [intOf]; omega
end Go.Proofs.YthjmkmjojlfejaaGreat

namespace Go.Proofs.YthjmkmjojlfejaaGreat
open Go Go.RowKit Go.Shelf
theorem rankedE_len50 (found : Int) (claims ranks : List Int) : (rankedE found claims ranks).1.length ≤ 50 := by
  by_cases z : (rankedE found claims ranks).2 = 0
  · have h := (ranked_law z).2.len
    unfold rankedE at z
    split at z
    · rename_i h1; exact absurd z h1
    · rename_i h1
      have := (checkShares_ok (Classical.not_not.1 h1)).1
      omega
  · rw [ranked_err z]; simp
theorem stakesE_len50 (fr up : Int) (claims : List Int) : (stakesE fr up claims).1.length ≤ 50 := by
  unfold stakesE
  split
  · simp
  · split
    · simp
    · rename_i h
      rw [stakesTo_len]
      exact (checkShares_ok (Classical.not_not.1 h)).1
theorem same_refl (W : World) (o1 o2 : Option Addr) (c1 c2 : Nat) (Q : List Int) (hq : Q.length ≤ 4000) (h1 : IntsAt W o1 Q) (h2 : IntsAt W o2 Q) :
    Calls Tryz.prog 32 #[.slice o1 Q.length c1, .slice o2 Q.length c2] W fun e w' => e = .returned (.bool true) ∧ Below W.heap.size W w' := by
  have H := same_any W o1 c1 Q o2 c2 Q (by omega) (by omega) h1 h2
  rw [decide_eq_true rfl] at H
  exact H.mono fun e w' ⟨a, b⟩ => ⟨a, by rw [b]; exact Below.refl _ _⟩
set_option maxRecDepth 100000 in
set_option maxHeartbeats 32000000 in
theorem areaRanks_of (hal : AliveOk) (w : World) (found : Int) (a : Option Addr) (cap : Nat) (claims : List Int) (a2 : Option Addr) (cap2 : Nat) (ranks : List Int) (fr up : Int) (hl : claims.length ≤ 9223372036854775807) (h : IntsAt w a claims) (hl2 : ranks.length ≤ 9223372036854775807) (h2 : IntsAt w a2 ranks) :
    Calls Tryz.prog 4 #[.int .i64 found, .slice a claims.length cap, .slice a2 ranks.length cap2, .int .i64 fr, .int .i64 up] w fun e w' => e = .returned (.bool true) ∧ Below w.heap.size w w' := by
  have HAL := hidE hal
  have BB0 : Hid (Below w.heap.size w w) := hidE (Below.refl _ _)
  have II0 : Hid (IntsAt w a claims) := hidE h
  have JJ0 : Hid (IntsAt w a2 ranks) := hidE h2
  have HK := hidE (fun W (p : IntsAt W a claims) (q : IntsAt W a2 ranks) => rankedE_any W found a a2 cap cap2 claims ranks hl hl2 p q)
  have HK5 := hidE (fun W (p : IntsAt W a claims) (q : IntsAt W a2 ranks) => ranked5_any W found a cap claims a2 cap2 ranks hl hl2 p q)
  have HT := hidE (fun W (p : IntsAt W a claims) => stakesE_any W fr up a cap claims hl p)
  have HT5 := hidE (fun W (p : IntsAt W a claims) => stakes5E_any W fr up a cap claims hl p)
  have hq1 := rankedE_len50 found claims ranks
  have hq2 := stakesE_len50 fr up claims
  obtain ⟨R1, hR1⟩ : ∃ z, (rankedE found claims ranks).1 = z := ⟨_, rfl⟩
  obtain ⟨R2, hR2⟩ : ∃ z, (rankedE found claims ranks).2 = z := ⟨_, rfl⟩
  obtain ⟨S1, hS1⟩ : ∃ z, (stakesE fr up claims).1 = z := ⟨_, rfl⟩
  obtain ⟨S2, hS2⟩ : ∃ z, (stakesE fr up claims).2 = z := ⟨_, rfl⟩
  rw [hR1, hR2] at HK HK5
  rw [hS1, hS2] at HT HT5
  rw [hR1] at hq1
  rw [hS1] at hq2
  clear hal h h2 hR1 hR2 hS1 hS2
  by_cases hv1 : 60 < claims.length
  · have hd : decide ((claims.length : Int) > 60) = true := by simp; omega
    have hd' : decide (60 < claims.length) = true := by simp; omega
    go_enter Tryz.func4, Tryz.ntmps4
    go_wp2_with fail
    refine (HAL.out _).mono ?_
    rintro e w9 ⟨rfl, hb9⟩
    have B9 := hidE (BB0.out.trans (hb9.mono BB0.out.size))
    clear hb9
    go_wp2_with fail
    go_ret
    exact ⟨by simp, B9.out⟩
  have hd1 : decide ((claims.length : Int) > 60) = false := by simp; omega
  have hd1' : decide (60 < claims.length) = false := by simp; omega
  by_cases hv2 : 60 < ranks.length
  · have hd : decide ((ranks.length : Int) > 60) = true := by simp; omega
    have hd' : decide (60 < ranks.length) = true := by simp; omega
    go_enter Tryz.func4, Tryz.ntmps4
    go_wp2_with fail
    refine (HAL.out _).mono ?_
    rintro e w9 ⟨rfl, hb9⟩
    have B9 := hidE (BB0.out.trans (hb9.mono BB0.out.size))
    clear hb9
    go_wp2_with fail
    go_ret
    exact ⟨by simp, B9.out⟩
  have hd2 : decide ((ranks.length : Int) > 60) = false := by simp; omega
  have hd2' : decide (60 < ranks.length) = false := by simp; omega
  clear hv1 hv2
  go_enter Tryz.func4, Tryz.ntmps4
  have HC := hidE (HK.out _ II0.out JJ0.out)
  go_wp2_with fail
  refine HC.out.mono ?_
  rintro e W1 ⟨⟨vp, rfl, hop⟩, hbx⟩
  clear HC 
  have hb : Below w.heap.size w W1 := hbx
  have BB1 : Hid (Below w.heap.size w W1) := hidE (BB0.out.trans (hb.mono BB0.out.size))
  have II1 : Hid (IntsAt W1 a claims) := hidE (II0.out.below hb (Nat.le_refl _))
  have JJ1 : Hid (IntsAt W1 a2 ranks) := hidE (JJ0.out.below hb (Nat.le_refl _))
  clear hb BB0 II0 JJ0
  clear hbx
  obtain ⟨op, cp, rfl, hip, _⟩ := intsAt_of_owns hop
  have Lp1 : Hid (IntsAt W1 op R1) := hidE hip
  clear hop hip
  have HC := hidE (HK5.out _ II1.out JJ1.out)
  go_wp2_with fail
  refine HC.out.mono ?_
  rintro e W2 ⟨⟨vq, rfl, hoq⟩, hbx⟩
  clear HC 
  have hb : Below W1.heap.size W1 W2 := hbx
  have BB2 : Hid (Below w.heap.size w W2) := hidE (BB1.out.trans (hb.mono BB1.out.size))
  have II2 : Hid (IntsAt W2 a claims) := hidE (II1.out.below hb (Nat.le_refl _))
  have JJ2 : Hid (IntsAt W2 a2 ranks) := hidE (JJ1.out.below hb (Nat.le_refl _))
  have Lp2 : Hid (IntsAt W2 op R1) := hidE (Lp1.out.below hb (Nat.le_refl _))
  clear hb BB1 II1 JJ1 Lp1
  clear hbx
  obtain ⟨oq, cq, rfl, hiq, _⟩ := intsAt_of_owns hoq
  have Lq2 : Hid (IntsAt W2 oq R1) := hidE hiq
  clear hoq hiq
  have HC := hidE (HT.out _ II2.out)
  go_wp2_with fail
  refine HC.out.mono ?_
  rintro e W3 ⟨⟨vr, rfl, hor⟩, hbx⟩
  clear HC 
  have hb : Below W2.heap.size W2 W3 := hbx
  have BB3 : Hid (Below w.heap.size w W3) := hidE (BB2.out.trans (hb.mono BB2.out.size))
  have II3 : Hid (IntsAt W3 a claims) := hidE (II2.out.below hb (Nat.le_refl _))
  have JJ3 : Hid (IntsAt W3 a2 ranks) := hidE (JJ2.out.below hb (Nat.le_refl _))
  have Lp3 : Hid (IntsAt W3 op R1) := hidE (Lp2.out.below hb (Nat.le_refl _))
  have Lq3 : Hid (IntsAt W3 oq R1) := hidE (Lq2.out.below hb (Nat.le_refl _))
  clear hb BB2 II2 JJ2 Lp2 Lq2
  clear hbx
  obtain ⟨or, cr, rfl, hir, _⟩ := intsAt_of_owns hor
  have Lr3 : Hid (IntsAt W3 or S1) := hidE hir
  clear hor hir
  have HC := hidE (HT5.out _ II3.out)
  go_wp2_with fail
  refine HC.out.mono ?_
  rintro e W4 ⟨⟨vs, rfl, hos⟩, hbx⟩
  clear HC 
  have hb : Below W3.heap.size W3 W4 := hbx
  have BB4 : Hid (Below w.heap.size w W4) := hidE (BB3.out.trans (hb.mono BB3.out.size))
  have II4 : Hid (IntsAt W4 a claims) := hidE (II3.out.below hb (Nat.le_refl _))
  have JJ4 : Hid (IntsAt W4 a2 ranks) := hidE (JJ3.out.below hb (Nat.le_refl _))
  have Lp4 : Hid (IntsAt W4 op R1) := hidE (Lp3.out.below hb (Nat.le_refl _))
  have Lq4 : Hid (IntsAt W4 oq R1) := hidE (Lq3.out.below hb (Nat.le_refl _))
  have Lr4 : Hid (IntsAt W4 or S1) := hidE (Lr3.out.below hb (Nat.le_refl _))
  clear hb BB3 II3 JJ3 Lp3 Lq3 Lr3
  clear hbx
  obtain ⟨os, cs, rfl, his, _⟩ := intsAt_of_owns hos
  have Ls4 : Hid (IntsAt W4 os S1) := hidE his
  clear hos his
  have HC := hidE (HAL.out W4)
  go_wp2_with fail
  refine HC.out.mono ?_
  rintro e W5 ⟨rfl, hbx⟩
  clear HC 
  have hb : Below W4.heap.size W4 W5 := hbx
  have BB5 : Hid (Below w.heap.size w W5) := hidE (BB4.out.trans (hb.mono BB4.out.size))
  have II5 : Hid (IntsAt W5 a claims) := hidE (II4.out.below hb (Nat.le_refl _))
  have JJ5 : Hid (IntsAt W5 a2 ranks) := hidE (JJ4.out.below hb (Nat.le_refl _))
  have Lp5 : Hid (IntsAt W5 op R1) := hidE (Lp4.out.below hb (Nat.le_refl _))
  have Lq5 : Hid (IntsAt W5 oq R1) := hidE (Lq4.out.below hb (Nat.le_refl _))
  have Lr5 : Hid (IntsAt W5 or S1) := hidE (Lr4.out.below hb (Nat.le_refl _))
  have Ls5 : Hid (IntsAt W5 os S1) := hidE (Ls4.out.below hb (Nat.le_refl _))
  clear hb BB4 II4 JJ4 Lp4 Lq4 Lr4 Ls4
  clear hbx
  have HC := hidE (same_refl W5 op oq cp cq R1 (by omega) Lp5.out Lq5.out)
  go_wp2_with fail
  refine HC.out.mono ?_
  rintro e W6 ⟨rfl, hbx⟩
  clear HC 
  have hb : Below W5.heap.size W5 W6 := hbx
  have BB6 : Hid (Below w.heap.size w W6) := hidE (BB5.out.trans (hb.mono BB5.out.size))
  have II6 : Hid (IntsAt W6 a claims) := hidE (II5.out.below hb (Nat.le_refl _))
  have JJ6 : Hid (IntsAt W6 a2 ranks) := hidE (JJ5.out.below hb (Nat.le_refl _))
  have Lp6 : Hid (IntsAt W6 op R1) := hidE (Lp5.out.below hb (Nat.le_refl _))
  have Lq6 : Hid (IntsAt W6 oq R1) := hidE (Lq5.out.below hb (Nat.le_refl _))
  have Lr6 : Hid (IntsAt W6 or S1) := hidE (Lr5.out.below hb (Nat.le_refl _))
  have Ls6 : Hid (IntsAt W6 os S1) := hidE (Ls5.out.below hb (Nat.le_refl _))
  clear hb BB5 II5 JJ5 Lp5 Lq5 Lr5 Ls5
  clear hbx
  have HC := hidE (same_refl W6 or os cr cs S1 (by omega) Lr6.out Ls6.out)
  go_wp2_with fail
  refine HC.out.mono ?_
  rintro e W7 ⟨rfl, hbx⟩
  clear HC 
  have hb : Below W6.heap.size W6 W7 := hbx
  have BB7 : Hid (Below w.heap.size w W7) := hidE (BB6.out.trans (hb.mono BB6.out.size))
  have II7 : Hid (IntsAt W7 a claims) := hidE (II6.out.below hb (Nat.le_refl _))
  have JJ7 : Hid (IntsAt W7 a2 ranks) := hidE (JJ6.out.below hb (Nat.le_refl _))
  have Lp7 : Hid (IntsAt W7 op R1) := hidE (Lp6.out.below hb (Nat.le_refl _))
  have Lq7 : Hid (IntsAt W7 oq R1) := hidE (Lq6.out.below hb (Nat.le_refl _))
  have Lr7 : Hid (IntsAt W7 or S1) := hidE (Lr6.out.below hb (Nat.le_refl _))
  have Ls7 : Hid (IntsAt W7 os S1) := hidE (Ls6.out.below hb (Nat.le_refl _))
  clear hb BB6 II6 JJ6 Lp6 Lq6 Lr6 Ls6
  clear hbx
  go_wp2_with fail
  go_ret
  exact ⟨by simp, BB7.out⟩
end Go.Proofs.YthjmkmjojlfejaaGreat
