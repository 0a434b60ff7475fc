/- What the law AreaOrder needs beyond the base: Rq, Oq, Lo. No conditions beyond those stated. -/
import Derived.Test.YthjmkmjojlfejaaGreatB09
import Derived.Test.YthjmkmjojlfejaaGreatB07
import Derived.Test.YthjmkmjojlfejaaGreatB06
import Derived.Test.YthjmkmjojlfejaaGreatB05
import Derived.Test.YthjmkmjojlfejaaGreatB04
import Derived.Test.YthjmkmjojlfejaaGreatB03
import Derived.Test.YthjmkmjojlfejaaGreatB02
import Derived.Test.YthjmkmjojlfejaaGreatB01
import Derived.Shelf.Small.Bits
import Derived.Shelf.Small.Wraps
import Derived.Shelf.Strconv.Itoa0
import Derived.Shelf.Sort.Plain
import Derived.Shelf.Slices.Turned
import Derived.Ground.Names2Prog
import Derived.Shelf.Slices.CompactI
import Derived.Shelf.Slices.SearchI
import Derived.Shelf.Slices.Cells
import Derived.Shelf.Slices.In.SortNone
import Derived.Test.YthjmkmjojlfejaaGreatProg
import Derived.WalkKit
import Derived.Handy
import Derived.RangeFuncRecord
import Derived.Shelf.Abstract
import Derived.Deep.QuietTactic
import Derived.BigQuiet
import Derived.Laws.CopyOwn
import Derived.WalkSmall
import Derived.RangeFuncNested
import Derived.RangeFuncBound
import Derived.RangeFuncCalls
import Derived.RangeFuncLeaves
import Derived.Shelf.RegionOpen
import Derived.OwnWalkIn
import Derived.TacticsInMore
import Derived.LoopNIn
import Derived.LoopIn
import Derived.Maps.AppendAt
import Derived.Deep.Onto
import Derived.OrdersHeld
import Derived.Deep.LoopGhost
import Derived.Deep.WholeRow
import Derived.Deep.OwnRows
import Derived.StillTailTactics
import Derived.Great.Walk
import Derived.Great.BuildSlice
import Derived.WalkMore
import Derived.Deep.MidRow
import Derived.Deep.RegionHeld3
import Derived.Deep.DeepCutAuto
import Derived.Lib.OwnBridge
import Derived.Lib.SliceRun
import Derived.WalkSpells
import Derived.Deep.RegionWith
import Derived.Lib.AppendZerosOnto
import Derived.Deep.CutBlock
import Derived.IntWalk
import Derived.Test.YthjmkmjojlfejaaGreatB10
import Derived.RangeFuncBox
import Derived.Scope
import Derived.Test.YthjmkmjojlfejaaGreatB13

namespace Go.Proofs.YthjmkmjojlfejaaGreat
theorem orderP_asc (ranks : List Int) : (orderP ranks).Pairwise (· < ·) := (compact_asc (sortP_le _)).1
end Go.Proofs.YthjmkmjojlfejaaGreat

namespace Go.Proofs.YthjmkmjojlfejaaGreat
theorem isum_map_add {α : Type} (f g : α → Int) (l : List α) : isum (l.map fun x => f x + g x) = isum (l.map f) + isum (l.map g) := by
  induction l with
  | nil => simp [isum]
  | cons x l ih => simp only [List.map_cons, isum, ih]; omega
theorem isum_out2 {a b : List Int} (h : b.length = a.length) : isum (out2P a b) = isum a + isum b := by
  unfold out2P
  rw [isum_map_add]
  have ha := list_range a
  have hb := list_range b
  rw [h] at hb
  rw [← ha, ← hb]
theorem out2_get {a b : List Int} {j : Nat} (hj : j < a.length) : (out2P a b).getD j 0 = a.getD j 0 + b.getD j 0 := by
  simp [out2P, List.getD_eq_getElem?_getD, hj]
theorem out2_len (a b : List Int) : (out2P a b).length = a.length := by simp [out2P]
/-- What has been given when the ranks of D have got theirs. -/
structure Given (claims ranks : List Int) (found : Int) (D : List Int) (s : Rk) : Prop where
  left : 0 ≤ s.left
  len : s.out.length = claims.length
  inn : ∀ i, i < claims.length → ranks.getD i 0 ∈ D → s.out.getD i 0 = claims.getD i 0
  out : ∀ i, i < claims.length → ranks.getD i 0 ∉ D → s.out.getD i 0 = 0
  sum : isum s.out + s.left = found
/-- What the law says of what was given. -/
structure RankLaw (claims ranks : List Int) (found : Int) (l : List Int) : Prop where
  len : l.length = claims.length
  pos : ∀ i, i < claims.length → 0 ≤ l.getD i 0
  fair : ∀ i k, i < claims.length → k < claims.length → ranks.getD i 0 < ranks.getD k 0 → 0 < l.getD k 0 → claims.getD i 0 ≤ l.getD i 0
  sum : isum l = found
theorem rank_in {claims ranks : List Int} (hl : ranks.length = claims.length) {i : Nat} (hi : i < claims.length) : ranks.getD i 0 ∈ orderP ranks := mem_orderP.2 (by
  rw [List.getD_eq_getElem?_getD, List.getElem?_eq_getElem (by omega)]
  exact List.getElem_mem _)
theorem ref5_law {claims ranks : List Int} {found : Int} (hl : ranks.length = claims.length) (hc : ∀ x ∈ claims, 0 ≤ x) : ∀ (l D0 : List Int) (last : Int) (s : Rk), D0 ++ l = orderP ranks → Given claims ranks found D0 s →
    (ref5Go claims ranks l last s).2 = 0 → RankLaw claims ranks found (ref5Go claims ranks l last s).1 := by
  intro l
  induction l with
  | nil =>
    intro D0 last s hD G h2
    rw [List.append_nil] at hD
    have hall : ∀ i, i < claims.length → s.out.getD i 0 = claims.getD i 0 := fun i hi => G.inn i hi (by rw [hD]; exact rank_in hl hi)
    unfold ref5Go at h2 ⊢
    by_cases hz : s.left = 0
    · rw [if_pos hz]
      refine ⟨G.len, fun i hi => ?_, fun i k hi hk _ _ => ?_, ?_⟩
      · show 0 ≤ s.out.getD i 0
        rw [hall i hi]; exact getD_nonneg hc i
      · show _ ≤ s.out.getD i 0
        rw [hall i hi]; exact Int.le_refl _
      · have := G.sum
        show isum s.out = found
        omega
    · rw [if_neg hz] at h2 ⊢
      by_cases hs : isum (ofP claims ranks last) = 0
      · rw [if_pos hs] at h2; cases h2
      · rw [if_neg hs]
        have hn := isum_nonneg (ofP_nonneg (ranks := ranks) hc last)
        have ho : ShOk s.left (ofP claims ranks last) := ⟨G.left, ofP_nonneg hc last, .inl (by omega)⟩
        have hsl : (sharesP s.left (ofP claims ranks last)).length = s.out.length := by rw [sharesP_len, G.len]; simp [ofP]
        have hge : ∀ i, 0 ≤ (sharesP s.left (ofP claims ranks last)).getD i 0 := getD_nonneg (shares_nonneg ho)
        refine ⟨(out2_len _ _).trans G.len, fun i hi => ?_, fun i k hi hk _ _ => ?_, ?_⟩
        · show 0 ≤ (out2P s.out (sharesP s.left (ofP claims ranks last))).getD i 0
          rw [out2_get (by rw [G.len]; exact hi), hall i hi]
          have := hge i
          have := getD_nonneg hc i
          omega
        · show _ ≤ (out2P s.out (sharesP s.left (ofP claims ranks last))).getD i 0
          rw [out2_get (by rw [G.len]; exact hi), hall i hi]
          have := hge i
          omega
        · show isum (out2P s.out (sharesP s.left (ofP claims ranks last))) = found
          rw [isum_out2 hsl, sharesP_sum ho]
          exact G.sum
  | cons r l ih =>
    intro D0 last s hD G h2
    have P := part_of hl r
    have hn := isum_nonneg (ofP_nonneg (ranks := ranks) hc r)
    have hasc := orderP_asc ranks
    rw [← hD, List.pairwise_append] at hasc
    obtain ⟨_, hasc2, hasc3⟩ := hasc
    have hrD : r ∉ D0 := fun h => by have := hasc3 r h r (List.mem_cons_self ..); omega
    have hown : ∀ i, i < claims.length → (ofP claims ranks r).getD i 0 = if ranks.getD i 0 = r then claims.getD i 0 else 0 := by
      intro i hi
      simp [ofP, List.getD_eq_getElem?_getD, hi]
    unfold ref5Go at h2 ⊢
    by_cases hlt : s.left < isum (ofP claims ranks r)
    · rw [if_pos hlt]
      have ho : ShOk s.left (ofP claims ranks r) := ⟨G.left, ofP_nonneg hc r, .inl (by have := G.left; omega)⟩
      have hsl : (sharesP s.left (ofP claims ranks r)).length = s.out.length := by rw [sharesP_len, G.len]; simp [ofP]
      have hge : ∀ i, 0 ≤ (sharesP s.left (ofP claims ranks r)).getD i 0 := getD_nonneg (shares_nonneg ho)
      have hzero : ∀ i, i < claims.length → ranks.getD i 0 ≠ r → (sharesP s.left (ofP claims ranks r)).getD i 0 = 0 := fun i hi hne => P.shares_out ho hi (by simpa using hne)
      have hout : ∀ i, 0 ≤ s.out.getD i 0 := by
        intro i
        by_cases hi : i < claims.length
        · by_cases hm : ranks.getD i 0 ∈ D0
          · rw [G.inn i hi hm]; exact getD_nonneg hc i
          · rw [G.out i hi hm]; exact Int.le_refl _
        · rw [List.getD_eq_getElem?_getD, List.getElem?_eq_none (by rw [G.len]; omega)]; exact Int.le_refl _
      refine ⟨(out2_len _ _).trans G.len, fun i hi => ?_, fun i k hi hk hik hpos => ?_, ?_⟩
      · show 0 ≤ (out2P s.out (sharesP s.left (ofP claims ranks r))).getD i 0
        rw [out2_get (by rw [G.len]; exact hi)]
        have := hge i
        have := hout i
        omega
      · have hpos' : 0 < (out2P s.out (sharesP s.left (ofP claims ranks r))).getD k 0 := hpos
        rw [out2_get (by rw [G.len]; exact hk)] at hpos'
        have hkr : ranks.getD k 0 ≤ r := by
          by_cases hm : ranks.getD k 0 ∈ D0
          · have := hasc3 _ hm r (List.mem_cons_self ..); omega
          · by_cases he : ranks.getD k 0 = r
            · omega
            · rw [G.out k hk hm, hzero k hk he] at hpos'
              simp at hpos'
        have hiD : ranks.getD i 0 ∈ D0 := by
          have hm := rank_in hl hi
          rw [← hD, List.mem_append] at hm
          rcases hm with h | h
          · exact h
          · rcases List.mem_cons.1 h with h | h
            · omega
            · have := (List.pairwise_cons.1 hasc2).1 _ h; omega
        show _ ≤ (out2P s.out (sharesP s.left (ofP claims ranks r))).getD i 0
        rw [out2_get (by rw [G.len]; exact hi), G.inn i hi hiD]
        have := hge i
        omega
      · show isum (out2P s.out (sharesP s.left (ofP claims ranks r))) = found
        rw [isum_out2 hsl, sharesP_sum ho]
        exact G.sum
    · rw [if_neg hlt] at h2 ⊢
      have hol : (ofP claims ranks r).length = s.out.length := by rw [G.len]; simp [ofP]
      refine ih (D0 ++ [r]) r _ (by rw [List.append_assoc]; exact hD) ⟨by simp only; omega, (out2_len _ _).trans G.len, fun i hi hm => ?_, fun i hi hm => ?_, ?_⟩ h2
      · show (out2P s.out (ofP claims ranks r)).getD i 0 = _
        rw [out2_get (by rw [G.len]; exact hi), hown i hi]
        rcases List.mem_append.1 hm with h | h
        · rw [G.inn i hi h, if_neg (fun e => hrD (by rw [← e]; exact h))]; omega
        · have e := List.mem_singleton.1 h
          rw [G.out i hi (by rw [e]; exact hrD), if_pos e]; omega
      · show (out2P s.out (ofP claims ranks r)).getD i 0 = _
        rw [List.mem_append, not_or] at hm
        rw [out2_get (by rw [G.len]; exact hi), hown i hi, G.out i hi hm.1, if_neg (fun e => hm.2 (List.mem_singleton.2 e))]; rfl
      · show isum (out2P s.out (ofP claims ranks r)) + (s.left - isum (ofP claims ranks r)) = found
        rw [isum_out2 hol]
        have := G.sum
        omega
theorem isum_replicate_zero (n : Nat) : isum (List.replicate n 0) = 0 := by
  induction n with
  | zero => rfl
  | succ n ih => rw [List.replicate_succ]; simp only [isum, ih]; rfl
theorem ranked_law {found : Int} {claims ranks : List Int} (h : (rankedE found claims ranks).2 = 0) : ranks.length = claims.length ∧ RankLaw claims ranks found (rankedE found claims ranks).1 := by
  rw [ranked_ref] at h ⊢
  unfold ranked5E at h ⊢
  split at h
  · rename_i h1; exact absurd h h1
  · rename_i h1
    rw [if_neg h1]
    split at h
    · cases h
    · rename_i h2
      rw [if_neg h2]
      simp only [ne_eq, Decidable.not_not] at h1
      obtain ⟨q1, q2, q3, q4⟩ := checkShares_ok h1
      have hl : ranks.length = claims.length := by
        apply Classical.byContradiction; intro e; exact h2 (.inl e)
      refine ⟨hl, ref5_law hl (fun x hx => (q3 x hx).1) (orderP ranks) [] (-1) (rankStart found claims) rfl ⟨q2.1, by simp [rankStart], fun i _ hm => (by cases hm), fun i hi _ => ?_, ?_⟩ h⟩
      · simp [rankStart, List.getD_eq_getElem?_getD, hi]
      · show isum (List.replicate claims.length 0) + found = found
        rw [isum_replicate_zero]; omega
theorem ranked_err {found : Int} {claims ranks : List Int} (h : (rankedE found claims ranks).2 ≠ 0) : (rankedE found claims ranks).1 = [] := by
  unfold rankedE at h ⊢
  split
  · rfl
  · rename_i h1
    rw [if_neg h1] at h
    split
    · rfl
    · rename_i h2
      rw [if_neg h2] at h
      unfold lastR at h ⊢
      split
      · rename_i h3
        rw [if_pos h3] at h
        split
        · rename_i h4
          rw [if_pos h4] at h; exact absurd rfl h
        · rfl
      · rename_i h3
        rw [if_neg h3] at h; exact absurd rfl h
theorem isum_take_step {S : List Int} (h : ∀ x ∈ S, 0 ≤ x) {k : Nat} : isum (S.take k) ≤ isum (S.take (k + 1)) ∧ isum (S.take k) ≤ isum S := by
  constructor
  · by_cases hk : k < S.length
    · rw [isum_take S hk]
      have := h _ (List.getElem_mem hk)
      omega
    · rw [List.take_of_length_le (by omega), List.take_of_length_le (by omega)]; exact Int.le_refl _
  · have e : isum S = isum (S.take k) + isum (S.drop k) := by rw [← isum_append, List.take_append_drop]
    have := isum_nonneg (l := S.drop k) fun x hx => h x (List.mem_of_mem_drop hx)
    omega
theorem stakes_ok {fr up : Int} {claims : List Int} (h : (stakesE fr up claims).2 = 0) : ∃ S : List Int, (stakesE fr up claims).1 = stakesTo fr up S claims.length ∧ S.length = claims.length ∧ (0 ≤ fr ∧ fr ≤ 100000) ∧ (0 ≤ up ∧ up ≤ 100000) ∧ (∀ k, if up < fr then stakeAt fr up S (k + 1) ≤ stakeAt fr up S k ∧ up ≤ stakeAt fr up S k else stakeAt fr up S k ≤ stakeAt fr up S (k + 1) ∧ stakeAt fr up S k ≤ up) ∧ stakeAt fr up S 0 = fr ∧ stakeAt fr up S claims.length = up := by
  unfold stakesE at h ⊢
  split at h
  · cases h
  · rename_i h1
    rw [if_neg h1]
    split at h
    · rename_i h2; exact absurd h h2
    · rename_i h2
      rw [if_neg h2]
      simp only [ne_eq, Decidable.not_not] at h2
      obtain ⟨q1, q2, q3, q4⟩ := checkShares_ok h2
      have i1 : inR fr 0 100000 = true := by cases e : inR fr 0 100000 with
        | true => rfl
        | false => exact absurd (.inl e) h1
      have i2 : inR up 0 100000 = true := by cases e : inR up 0 100000 with
        | true => rfl
        | false => exact absurd (.inr e) h1
      unfold inR at i1 i2
      simp only [Bool.and_eq_true, decide_eq_true_eq] at i1 i2
      have hs := sharesP_sum q4
      have hp := shares_nonneg q4
      have hl := sharesP_len (max (fr - up) (up - fr)) claims
      obtain ⟨S, hS⟩ : ∃ S, sharesP (max (fr - up) (up - fr)) claims = S := ⟨_, rfl⟩
      rw [hS] at hs hp hl ⊢
      refine ⟨S, rfl, hl, i1, i2, fun k => ?_, ?_, ?_⟩
      · have := isum_take_step hp (k := k)
        unfold stakeAt
        by_cases hlt : up < fr
        · simp only [if_pos hlt]; omega
        · simp only [if_neg hlt]; omega
      · unfold stakeAt; simp [isum]
      · unfold stakeAt
        rw [List.take_of_length_le (by omega), hs]
        split <;> omega
theorem stakes_err {fr up : Int} {claims : List Int} (h : (stakesE fr up claims).2 ≠ 0) : (stakesE fr up claims).1 = [] := by
  unfold stakesE at h ⊢
  split
  · rfl
  · rename_i h1
    rw [if_neg h1] at h
    split
    · rfl
    · rename_i h2
      rw [if_neg h2] at h; exact absurd rfl h
end Go.Proofs.YthjmkmjojlfejaaGreat

namespace Go.Proofs.YthjmkmjojlfejaaGreat
open Go Go.RowKit Go.Shelf
theorem rankedE_len (found : Int) (claims ranks : List Int) (h : claims.length ≤ 60) : (rankedE found claims ranks).1.length ≤ 60 := by
  by_cases z : (rankedE found claims ranks).2 = 0
  · have := (ranked_law z).2.len; omega
  · rw [ranked_err z]; simp
theorem ranked_found {found : Int} {claims ranks : List Int} (h : (rankedE found claims ranks).2 = 0) : found ≤ 100000000000 := by
  unfold rankedE at h
  split at h
  · rename_i h1; exact absurd h h1
  · rename_i h1
    simp only [ne_eq, Decidable.not_not] at h1
    exact (checkShares_ok h1).2.1.2
set_option maxRecDepth 100000 in
set_option maxHeartbeats 32000000 in
theorem areaOrder_of (hal : AliveOk) (w : World) (found : Int) (a : Option Addr) (cap : Nat) (claims : List Int) (a2 : Option Addr) (cap2 : Nat) (ranks : List Int) (fr up : Int) (hl : claims.length ≤ 9223372036854775807) (h : IntsAt w a claims) (hl2 : ranks.length ≤ 9223372036854775807) (h2 : IntsAt w a2 ranks) :
    Calls Tryz.prog 6 #[.int .i64 found, .slice a claims.length cap, .slice a2 ranks.length cap2, .int .i64 fr, .int .i64 up] w fun e w' => e = .returned (.bool true) ∧ Below w.heap.size w w' := by
  have HAL := hidE hal
  have H := hidE h
  have H2 := hidE h2
  clear hal h h2
  have HR := hidE (fun W hW hW2 => rankedE_any W found a a2 cap cap2 claims ranks hl hl2 hW hW2)
  have HS := hidE (fun W hW => stakesE_any W fr up a cap claims hl hW)
  by_cases hb1 : 60 < claims.length
  · have hd : decide ((claims.length : Int) > 60) = true := by simp; omega
    have hd' : decide (60 < claims.length) = true := by simp; omega
    go_enter Tryz.func6, Tryz.ntmps6
    go_wp2_with fail
    refine (HAL.out _).mono ?_
    rintro e w1 ⟨rfl, hb⟩
    go_wp2_with fail
    go_ret
    exact ⟨rfl, hb⟩
  have hd : decide ((claims.length : Int) > 60) = false := by simp; omega
  have hd' : decide (60 < claims.length) = false := by simp; omega
  by_cases hb2 : 60 < ranks.length
  · have hd2 : decide ((ranks.length : Int) > 60) = true := by simp; omega
    have hd2' : decide (60 < ranks.length) = true := by simp; omega
    go_enter Tryz.func6, Tryz.ntmps6
    go_wp2_with fail
    refine (HAL.out _).mono ?_
    rintro e w1 ⟨rfl, hb⟩
    go_wp2_with fail
    go_ret
    exact ⟨rfl, hb⟩
  have hd2 : decide ((ranks.length : Int) > 60) = false := by simp; omega
  have hd2' : decide (60 < ranks.length) = false := by simp; omega
  -- stakes
  have HSK : Hid (((stakesE fr up claims).2 ≠ 0 ∧ (stakesE fr up claims).1 = []) ∨ ((stakesE fr up claims).2 = 0 ∧ ∃ S : List Int, (stakesE fr up claims).1 = stakesTo fr up S claims.length ∧ S.length = claims.length ∧ (0 ≤ fr ∧ fr ≤ 100000) ∧ (0 ≤ up ∧ up ≤ 100000) ∧ (∀ k, if up < fr then stakeAt fr up S (k + 1) ≤ stakeAt fr up S k ∧ up ≤ stakeAt fr up S k else stakeAt fr up S k ≤ stakeAt fr up S (k + 1) ∧ stakeAt fr up S k ≤ up) ∧ stakeAt fr up S 0 = fr ∧ stakeAt fr up S claims.length = up)) := hidE (by
    by_cases z : (stakesE fr up claims).2 = 0
    · exact .inr ⟨z, stakes_ok z⟩
    · exact .inl ⟨z, stakes_err z⟩)
  obtain ⟨SL, hSL⟩ : ∃ x, (stakesE fr up claims).1 = x := ⟨_, rfl⟩
  obtain ⟨SE, hSE⟩ : ∃ x, (stakesE fr up claims).2 = x := ⟨_, rfl⟩
  rw [hSL, hSE] at HS HSK
  clear hSL hSE
  have hrl := rankedE_len found claims ranks (by omega)
  have hfnd := fun z => ranked_found (found := found) (claims := claims) (ranks := ranks) z
  have hlaw := fun z => ranked_law (found := found) (claims := claims) (ranks := ranks) z
  have herr := fun z => ranked_err (found := found) (claims := claims) (ranks := ranks) z
  obtain ⟨RL, hRL⟩ : ∃ x, (rankedE found claims ranks).1 = x := ⟨_, rfl⟩
  obtain ⟨RE, hRE⟩ : ∃ x, (rankedE found claims ranks).2 = x := ⟨_, rfl⟩
  rw [hRL, hRE] at HR
  rw [hRL] at hrl
  rw [hRE] at hlaw herr
  rw [hRL] at hlaw herr
  rw [hRE] at hfnd
  clear hRL hRE
  by_cases hz : RE = 0
  · obtain ⟨hlen, LW⟩ := hlaw hz
    have hfd := hfnd hz
    subst hz
    have HLW := hidE LW
    have HFD : Hid (found ≤ 100000000000) := hidE hfd
    have HL0 := hidE LW.len
    have HX0 : Hid (∀ x ∈ RL, 0 ≤ x) := hidE (fun x hx => by
      obtain ⟨j, hj, rfl⟩ := List.getElem_of_mem hx
      have := LW.pos j (by rw [← LW.len]; exact hj)
      rwa [getD_get RL 0 hj] at this)
    obtain ⟨n, hn⟩ : ∃ n, claims.length = n := ⟨_, rfl⟩
    have HCN := hidE hn
    have HRN := hidE (hlen.trans hn)
    have HLN := hidE (LW.len.trans hn)
    clear hlaw herr LW HL0
    rw [hn] at hd hd' HR HS ⊢
    rw [hn] at HSK
    rw [HRN.out] at hd2 hd2' HR ⊢
    have hn60 : n ≤ 60 := by omega
    clear hlen hn hb1 hb2 hrl
    go_enter Tryz.func6, Tryz.ntmps6
    go_wp2_with fail
    refine (HR.out _ H.out H2.out).mono ?_
    rintro e w1 ⟨⟨v1, rfl, ho1⟩, hb1⟩
    have B1 := hidE hb1
    have HC1 := hidE (H.out.below hb1 (Nat.le_refl _))
    have HK1 := hidE (H2.out.below hb1 (Nat.le_refl _))
    obtain ⟨o1, c1, rfl, hi1, _⟩ := intsAt_of_owns ho1
    have HI1 := hidE hi1
    rw [HLN.out]
    clear hb1 ho1 hi1 HR H H2
    have hne : ((n : Int) != (n : Int)) = false := by simp
    go_wp2_with fail
    clear hne
    go_loopw [13, 54] (fun x y wr => ∃ i : Nat, i ≤ n ∧ x = .int .i64 (isum (RL.take i)) ∧ y = .int .i64 i ∧ Hid (OnlyG w1.heap.size w1 wr)) (fun _ y _ => n - (intOf y).toNat)
    case atStart => exact ⟨0, Nat.zero_le _, rfl, rfl, hidE (OnlyG.refl _ _)⟩
    case round =>
      obtain ⟨i, hi, rfl, rfl, HD⟩ := hrel
      obtain ⟨wx, rfl⟩ : ∃ W : World, W = wr := ⟨wr, rfl⟩
      by_cases hin : i < n
      · have his : i < RL.length := by rw [HLN.out]; exact hin
        have hic : i < claims.length := by rw [HCN.out]; exact hin
        have hir : i < ranks.length := by rw [HRN.out]; exact hin
        obtain ⟨b1, q1, rfl, hb1, hc1⟩ := HI1.out.at his
        obtain ⟨b2, q2, rfl, hb2, hc2⟩ := HC1.out.at hic
        obtain ⟨b3, q3, rfl, hb3, hc3⟩ := HK1.out.at hir
        have HST := hidE (isum_take RL his)
        have hpos := HLW.out.pos i hic
        rw [← getD_get RL 0 his] at hc1 HST
        rw [← getD_get claims 0 hic] at hc2
        rw [← getD_get ranks 0 hir] at hc3
        obtain ⟨si, hsi⟩ : ∃ x, RL.getD i 0 = x := ⟨_, rfl⟩
        obtain ⟨ci, hci⟩ : ∃ x, claims.getD i 0 = x := ⟨_, rfl⟩
        obtain ⟨ri, hri⟩ : ∃ x, ranks.getD i 0 = x := ⟨_, rfl⟩
        rw [hsi] at hc1 HST hpos
        rw [hci] at hc2
        rw [hri] at hc3
        have HSI := hidE hsi
        have HCI := hidE hci
        have HRI := hidE hri
        obtain ⟨sm, hsm⟩ : ∃ x, isum (RL.take i) = x := ⟨_, rfl⟩
        have hx0 : ∀ x ∈ RL, 0 ≤ x := HX0.out
        have hst0 : 0 ≤ sm := by
          rw [← hsm]
          exact isum_nonneg fun x hx => hx0 x (List.mem_of_mem_take hx)
        have hst1 : sm + si ≤ found := by
          have e1 := HST.out
          rw [hsm] at e1
          rw [← e1, ← HLW.out.sum]
          exact (isum_take_step hx0 (k := i + 1)).2
        clear hx0
        rw [hsm] at HST ⊢
        have cs : wx.cell? ⟨b1, q1 + i, none⟩ = some (.int .i64 si) := (HD.out.cell (p := ⟨b1, q1 + i, none⟩) (Nat.ne_of_lt hb1)).trans hc1
        have hws : IntKind.i64.wrap (sm + si) = sm + si := IntWalk.i64_in _ (by have := HFD.out; omega)
        have HIN := hidE hin
        clear hsi hci hri hsm
        go_wp2_with fail
        go_loopw [64] (fun y wr => ∃ m : Nat, m ≤ n ∧ y = .int .i64 m ∧ Hid (OnlyG w1.heap.size w1 wr)) (fun y _ => n - (intOf y).toNat)
        case atStart => exact ⟨0, Nat.zero_le _, rfl, HD⟩
        case round =>
          obtain ⟨m, hm, rfl, HD2⟩ := hrel
          obtain ⟨wz, rfl⟩ : ∃ W : World, W = wr := ⟨wr, rfl⟩
          by_cases hmi : m < n
          · have hms : m < RL.length := by rw [HLN.out]; exact hmi
            have hmc : m < claims.length := by rw [HCN.out]; exact hmi
            have hmr : m < ranks.length := by rw [HRN.out]; exact hmi
            obtain ⟨_, _, e3, _, hc4⟩ := HI1.out.at hms
            obtain ⟨_, _, e4, _, hc5⟩ := HK1.out.at hmr
            cases e3
            cases e4
            rw [← getD_get RL 0 hms] at hc4
            rw [← getD_get ranks 0 hmr] at hc5
            have hfair := HLW.out.fair i m hic hmc
            rw [HSI.out, HCI.out, HRI.out] at hfair
            obtain ⟨sk, hsk⟩ : ∃ x, RL.getD m 0 = x := ⟨_, rfl⟩
            obtain ⟨rk, hrk⟩ : ∃ x, ranks.getD m 0 = x := ⟨_, rfl⟩
            rw [hsk] at hc4 hfair
            rw [hrk] at hc5 hfair
            have k1 : wz.cell? ⟨b1, q1 + m, none⟩ = some (.int .i64 sk) := (HD2.out.cell (p := ⟨b1, q1 + m, none⟩) (Nat.ne_of_lt hb1)).trans hc4
            have k2 : wz.cell? ⟨b3, q3 + m, none⟩ = some (.int .i64 rk) := (HD2.out.cell (p := ⟨b3, q3 + m, none⟩) (Nat.ne_of_lt hb3)).trans hc5
            have k3 : wz.cell? ⟨b3, q3 + i, none⟩ = some (.int .i64 ri) := (HD2.out.cell (p := ⟨b3, q3 + i, none⟩) (Nat.ne_of_lt hb3)).trans hc3
            have k4 : wz.cell? ⟨b2, q2 + i, none⟩ = some (.int .i64 ci) := (HD2.out.cell (p := ⟨b2, q2 + i, none⟩) (Nat.ne_of_lt hb2)).trans hc2
            have hw1 : IntKind.i64.wrap ((m : Int) + 1) = (m : Int) + 1 := IntWalk.i64_in _ (by omega)
            have d0 : decide (si < 0) = false := by simp; omega
            clear hc4 hc5 hsk hrk
            by_cases hc : ri < rk
            · have d1 : decide (rk > ri) = true := by simp; omega
              have d2 : decide (ri < rk) = true := by simp; omega
              by_cases hp : 0 < sk
              · have d3 : decide (sk > 0) = true := by simp; omega
                have d4 : decide (0 < sk) = true := by simp; omega
                have d5 : decide (si < ci) = false := by have := hfair hc hp; simp; omega
                clear hfair hc hp
                go_upto_region 15 with fail
                go_quiet (fail)
                go_wp2_with fail
                go_roundw
                case rel => exact ⟨m + 1, by omega, by go_num, hidE (HD2.out.trans (OnlyG.drewN _ _))⟩
                case measure => simp [intOf]; omega
              · have d3 : decide (sk > 0) = false := by simp; omega
                have d4 : decide (0 < sk) = false := by simp; omega
                clear hfair hc hp
                go_upto_region 15 with fail
                go_quiet (fail)
                go_wp2_with fail
                go_roundw
                case rel => exact ⟨m + 1, by omega, by go_num, hidE (HD2.out.trans (OnlyG.drewN _ _))⟩
                case measure => simp [intOf]; omega
            · have d1 : decide (rk > ri) = false := by simp; omega
              have d2 : decide (ri < rk) = false := by simp; omega
              clear hfair hc
              go_upto_region 15 with fail
              go_quiet (fail)
              go_wp2_with fail
              go_roundw
              case rel => exact ⟨m + 1, by omega, by go_num, hidE (HD2.out.trans (OnlyG.drewN _ _))⟩
              case measure => simp [intOf]; omega
          · obtain rfl : m = n := by omega
            go_wp2_with fail
            go_roundw
            case rel => exact ⟨i + 1, HIN.out, by rw [HST.out], by go_num, HD2⟩
            case measure => have := HIN.out; simp [intOf]; omega
      · obtain rfl : i = n := by omega
        have HTK := hidE (show isum (RL.take i) = found by rw [List.take_of_length_le (by rw [HLN.out]; exact Nat.le_refl _)]; exact HLW.out.sum)
        rw [HTK.out]
        have hne2 : (found != found) = false := by simp
        have HC2 := hidE (HC1.out.below HD.out.bl (Nat.le_refl _))
        have B2 := hidE (B1.out.trans (HD.out.bl.mono B1.out.size))
        have zE : ((0 : Int) == 0) = true := rfl
        clear HC1 HK1
        go_wp2_with fail
        refine (HS.out _ HC2.out).mono ?_
        rintro e w5 ⟨⟨v2, rfl, ho2⟩, hb5⟩
        have B5 := hidE (B2.out.trans (hb5.mono B2.out.size))
        obtain ⟨o2, c2, rfl, hi2, _⟩ := intsAt_of_owns ho2
        have HI5 := hidE hi2
        clear hb5 ho2 hi2 HS
        rcases HSK.out with ⟨z1, rfl⟩ | ⟨z1, S, rfl, z3, z4, z5, z6, z7, z8⟩
        · have z2 : (SE != 0) = true := by simpa using z1
          clear z1
          go_wp2_with fail
          refine (HAL.out _).mono ?_
          rintro e w6 ⟨rfl, hb6⟩
          have B6 := hidE (B5.out.trans (hb6.mono B5.out.size))
          clear hb6
          go_wp2_with fail
          go_ret
          exact ⟨by simp, B6.out⟩
        · subst z1
          have HZ3 := hidE z3
          have HZ6 := hidE z6
          have HZ7 := hidE z7
          have HZ8 := hidE z8
          have HTL := hidE (stakesTo_len fr up S i)
          have HTG := hidE (fun k (hk : k < i) => show (stakesTo fr up S i).getD k 0 = stakeAt fr up S (k + 1) by simp [stakesTo, List.getD_eq_getElem?_getD, hk])
          obtain ⟨T, hT⟩ : ∃ T, stakesTo fr up S i = T := ⟨_, rfl⟩
          rw [hT] at HTL HTG HI5 ⊢
          rw [HTL.out]
          clear hT z3 z6 z7 z8
          go_wp2_with fail
          go_loopw [19, 127] (fun x y wr => ∃ ii : Nat, ii ≤ i ∧ x = .int .i64 (stakeAt fr up S ii) ∧ y = .int .i64 ii ∧ wr = w5) (fun _ y _ => i - (intOf y).toNat)
          case atStart => exact ⟨0, Nat.zero_le _, by rw [HZ7.out], rfl, rfl⟩
          case round =>
            obtain ⟨j, hj, rfl, rfl, rfl⟩ := hrel
            by_cases hjn : j < i
            · have hjt : j < T.length := by rw [HTL.out]; exact hjn
              obtain ⟨b9, q9, rfl, hb9, hc9⟩ := HI5.out.at hjt
              rw [← getD_get T 0 hjt, HTG.out j hjn] at hc9
              have hs0 := HZ6.out j
              have hs1 := HZ6.out (j + 1)
              have HNX := hidE (rfl : stakeAt fr up S (j + 1) = stakeAt fr up S (j + 1))
              obtain ⟨x0, hx0⟩ : ∃ x, stakeAt fr up S j = x := ⟨_, rfl⟩
              obtain ⟨x1, hx1⟩ : ∃ x, stakeAt fr up S (j + 1) = x := ⟨_, rfl⟩
              obtain ⟨x2, hx2⟩ : ∃ x, stakeAt fr up S (j + 1 + 1) = x := ⟨_, rfl⟩
              rw [hx0, hx1] at hs0
              rw [hx1, hx2] at hs1
              rw [hx1] at hc9
              rw [hx0]
              have HX1 := hidE hx1
              have hw1 : IntKind.i64.wrap ((j : Int) + 1) = (j : Int) + 1 := IntWalk.i64_in _ (by omega)
              clear hx0 hx1 hx2 HNX
              by_cases hlt : up < fr
              · rw [if_pos hlt] at hs0 hs1
                have d0 : decide (up ≥ fr) = false := by simp; omega
                have d0' : decide (fr ≤ up) = false := by simp; omega
                have d1 : decide (up < fr) = true := by simpa using hlt
                have d2 : decide (x1 > x0) = false := by simp; omega
                have d2' : decide (x0 < x1) = false := by simp; omega
                have d3 : decide (x1 < up) = false := by simp; omega
                clear hs0 hs1 hlt
                go_wp2_with fail
                go_roundw
                case rel => exact ⟨j + 1, hjn, by rw [HX1.out], by go_num, trivial⟩
                case measure => simp [intOf]; omega
              · rw [if_neg hlt] at hs0 hs1
                have d0 : decide (up ≥ fr) = true := by simp; omega
                have d0' : decide (fr ≤ up) = true := by simp; omega
                have d1 : decide (up < fr) = false := by simpa using hlt
                have d2 : decide (x1 < x0) = false := by simp; omega
                have d3 : decide (x1 > up) = false := by simp; omega
                have d3' : decide (up < x1) = false := by simp; omega
                clear hs0 hs1 hlt
                go_wp2_with fail
                go_roundw
                case rel => exact ⟨j + 1, hjn, by rw [HX1.out], by go_num, trivial⟩
                case measure => simp [intOf]; omega
            · obtain rfl : j = i := by omega
              rw [HZ8.out]
              go_wp2_with fail
              refine (HAL.out _).mono ?_
              rintro e w6 ⟨rfl, hb6⟩
              have B6 := hidE (B5.out.trans (hb6.mono B5.out.size))
              clear hb6
              go_wp2_with fail
              go_ret
              exact ⟨by simp, B6.out⟩
  · have hnil := herr hz
    have zE : (RE == 0) = false := by simpa using hz
    subst hnil
    obtain ⟨n, hn⟩ : ∃ n, claims.length = n := ⟨_, rfl⟩
    rw [hn] at hd hd' HR HS ⊢
    rw [hn] at HSK
    have hn60 : n ≤ 60 := by omega
    clear hz hlaw herr hn hb1 hb2 hrl
    go_enter Tryz.func6, Tryz.ntmps6
    go_wp2_with fail
    refine (HR.out _ H.out H2.out).mono ?_
    rintro e w1 ⟨⟨v1, rfl, ho1⟩, hb1⟩
    have B1 := hidE hb1
    have HC1 := hidE (H.out.below hb1 (Nat.le_refl _))
    obtain ⟨o1, c1, rfl, hi1, _⟩ := intsAt_of_owns ho1
    clear hb1 ho1 hi1 HR H H2
    go_wp2_with fail
    refine (HS.out _ HC1.out).mono ?_
    rintro e w5 ⟨⟨v2, rfl, ho2⟩, hb5⟩
    have B5 := hidE (B1.out.trans (hb5.mono B1.out.size))
    obtain ⟨o2, c2, rfl, hi2, _⟩ := intsAt_of_owns ho2
    have HI5 := hidE hi2
    clear hb5 ho2 hi2 HS
    rcases HSK.out with ⟨z1, rfl⟩ | ⟨z1, S, rfl, z3, z4, z5, z6, z7, z8⟩
    · have z2 : (SE != 0) = true := by simpa using z1
      clear z1
      go_wp2_with fail
      refine (HAL.out _).mono ?_
      rintro e w6 ⟨rfl, hb6⟩
      have B6 := hidE (B5.out.trans (hb6.mono B5.out.size))
      clear hb6
      go_wp2_with fail
      go_ret
      exact ⟨by simp, B6.out⟩
    · subst z1
      have HZ3 := hidE z3
      have HZ6 := hidE z6
      have HZ7 := hidE z7
      have HZ8 := hidE z8
      have HTL := hidE (stakesTo_len fr up S n)
      have HTG := hidE (fun k (hk : k < n) => show (stakesTo fr up S n).getD k 0 = stakeAt fr up S (k + 1) by simp [stakesTo, List.getD_eq_getElem?_getD, hk])
      obtain ⟨T, hT⟩ : ∃ T, stakesTo fr up S n = T := ⟨_, rfl⟩
      rw [hT] at HTL HTG HI5 ⊢
      rw [HTL.out]
      clear hT z3 z6 z7 z8
      go_wp2_with fail
      go_loopw [19, 127] (fun x y wr => ∃ ii : Nat, ii ≤ n ∧ x = .int .i64 (stakeAt fr up S ii) ∧ y = .int .i64 ii ∧ wr = w5) (fun _ y _ => n - (intOf y).toNat)
      case atStart => exact ⟨0, Nat.zero_le _, by rw [HZ7.out], rfl, rfl⟩
      case round =>
        obtain ⟨j, hj, rfl, rfl, rfl⟩ := hrel
        by_cases hjn : j < n
        · have hjt : j < T.length := by rw [HTL.out]; exact hjn
          obtain ⟨b9, q9, rfl, hb9, hc9⟩ := HI5.out.at hjt
          rw [← getD_get T 0 hjt, HTG.out j hjn] at hc9
          have hs0 := HZ6.out j
          have hs1 := HZ6.out (j + 1)
          have HNX := hidE (rfl : stakeAt fr up S (j + 1) = stakeAt fr up S (j + 1))
          obtain ⟨x0, hx0⟩ : ∃ x, stakeAt fr up S j = x := ⟨_, rfl⟩
          obtain ⟨x1, hx1⟩ : ∃ x, stakeAt fr up S (j + 1) = x := ⟨_, rfl⟩
          obtain ⟨x2, hx2⟩ : ∃ x, stakeAt fr up S (j + 1 + 1) = x := ⟨_, rfl⟩
          rw [hx0, hx1] at hs0
          rw [hx1, hx2] at hs1
          rw [hx1] at hc9
          rw [hx0]
          have HX1 := hidE hx1
          have hw1 : IntKind.i64.wrap ((j : Int) + 1) = (j : Int) + 1 := IntWalk.i64_in _ (by omega)
          clear hx0 hx1 hx2 HNX
          by_cases hlt : up < fr
          · rw [if_pos hlt] at hs0 hs1
            have d0 : decide (up ≥ fr) = false := by simp; omega
            have d0' : decide (fr ≤ up) = false := by simp; omega
            have d1 : decide (up < fr) = true := by simpa using hlt
            have d2 : decide (x1 > x0) = false := by simp; omega
            have d2' : decide (x0 < x1) = false := by simp; omega
            have d3 : decide (x1 < up) = false := by simp; omega
            clear hs0 hs1 hlt
            go_wp2_with fail
            go_roundw
            case rel => exact ⟨j + 1, hjn, by rw [HX1.out], by go_num, trivial⟩
            case measure => simp [intOf]; omega
          · rw [if_neg hlt] at hs0 hs1
            have d0 : decide (up ≥ fr) = true := by simp; omega
            have d0' : decide (fr ≤ up) = true := by simp; omega
            have d1 : decide (up < fr) = false := by simpa using hlt
            have d2 : decide (x1 < x0) = false := by simp; omega
            have d3 : decide (x1 > up) = false := by simp; omega
            have d3' : decide (up < x1) = false := by simp; omega
            clear hs0 hs1 hlt
            go_wp2_with fail
            go_roundw
            case rel => exact ⟨j + 1, hjn, by rw [HX1.out], by go_num, trivial⟩
            case measure => simp [intOf]; omega
        · obtain rfl : j = n := by omega
          rw [HZ8.out]
          go_wp2_with fail
          refine (HAL.out _).mono ?_
          rintro e w6 ⟨rfl, hb6⟩
          have B6 := hidE (B5.out.trans (hb6.mono B5.out.size))
          clear hb6
          go_wp2_with fail
          go_ret
          exact ⟨by simp, B6.out⟩
end Go.Proofs.YthjmkmjojlfejaaGreat
