/- Merged text 10 of the base: St1, Na, Nb, Nc, Ne0, Rk. No conditions beyond those stated. -/
import Derived.Test.YthjmkmjojlfejaaGreatB09
import Derived.Test.YthjmkmjojlfejaaGreatB07
import Derived.Test.YthjmkmjojlfejaaGreatB05
import Derived.Test.YthjmkmjojlfejaaGreatB03
import Derived.Test.YthjmkmjojlfejaaGreatB01
import Derived.Test.YthjmkmjojlfejaaGreatB02
import Derived.Scope
namespace Go.Proofs.YthjmkmjojlfejaaGreat
open Go Go.RowKit Go.Shelf
theorem inR_bd {n a b : Int} (h : inR n a b = true) : a ≤ n ∧ n ≤ b := by unfold inR at h; simpa using h
theorem stakeAt_succ {fr up : Int} {l : List Int} {k : Nat} (hk : k < l.length) : stakeAt fr up l (k + 1) = stakeAt fr up l k + (if up < fr then -l[k] else l[k]) := by
 unfold stakeAt; rw [isum_take l hk]; split <;> omega
theorem isum_take_le {l : List Int} (h : ∀ x ∈ l, 0 ≤ x) (k : Nat) : isum (l.take k) ≤ isum l := by
 have e : isum l = isum (l.take k) + isum (l.drop k) := by rw [← isum_append, List.take_append_drop]
 have := isum_nonneg (l := l.drop k) (fun x hx => h x (List.mem_of_mem_drop hx))
 omega
set_option maxRecDepth 100000 in
set_option maxHeartbeats 8000000 in
theorem stakesE_any (w : World) (fr up : Int) (a : Option Addr) (cap : Nat) (claims : List Int) (hl : claims.length ≤ 9223372036854775807) (h : IntsAt w a claims) :
 Calls Tryz.prog 30 #[.int .i64 fr, .int .i64 up, .slice a claims.length cap] w fun e w' => ListErr (stakesE fr up claims).1 (stakesE fr up claims).2 w.heap.size e w' ∧ Below w.heap.size w w' := by
 obtain ⟨Q, hQ⟩ : ∃ Q, stakesE fr up claims = Q := ⟨_, rfl⟩
 rw [hQ]
 unfold stakesE at hQ
 have H := hidE h
 have HQ := hidE hQ
 clear h hQ
 go_enter Tryz.func30, Tryz.ntmps30
 go_wp2_with fail
 refine (in_any fr 0 100000 w).mono ?_
 rintro e w1 ⟨rfl, rfl⟩
 cases hq1 : inR fr 0 100000 with
 | false =>
   obtain rfl : ([], (1 : Int)) = Q := by have := HQ.out; rw [if_pos (.inl hq1)] at this; exact this
   clear hq1
   go_wp2_with fail
   go_ret2
   exact ⟨⟨.slice none 0 0, rfl, World.ownsRow_nil _ _ _ _⟩, Below.refl _ _⟩
 | true =>
   go_wp2_with fail
   refine (in_any up 0 100000 w).mono ?_
   rintro e w2 ⟨rfl, rfl⟩
   cases hq2 : inR up 0 100000 with
   | false =>
     obtain rfl : ([], (1 : Int)) = Q := by have := HQ.out; rw [if_pos (.inr hq2)] at this; exact this
     clear hq1 hq2
     go_wp2_with fail
     go_ret2
     exact ⟨⟨.slice none 0 0, rfl, World.ownsRow_nil _ _ _ _⟩, Below.refl _ _⟩
   | true =>
     have b1 := inR_bd hq1
     have b2 := inR_bd hq2
     have hQ2 := HQ.out
     rw [if_neg (by rw [hq1, hq2]; simp)] at hQ2
     obtain ⟨T, hT⟩ : ∃ T, max (fr - up) (up - fr) = T := ⟨_, rfl⟩
     have hTb : 0 ≤ T ∧ T ≤ 100000 := by omega
     rw [hT] at hQ2
     have hw1 : IntKind.i64.wrap (fr - up) = fr - up := IntWalk.i64_in _ (by omega)
     have hw2 : IntKind.i64.wrap (up - fr) = up - fr := IntWalk.i64_in _ (by omega)
     have HSH := hidE (sharesE_any w T a cap claims hl H.out)
     obtain ⟨E, hE⟩ : ∃ E, checkSharesP T claims = E := ⟨_, rfl⟩
     have HE := hidE hE
     have HQ2 := hidE hQ2
     clear hq1 hq2 hQ2 HQ hE
     go_wp2_with fail
     refine HSH.out.mono ?_
     rintro e w3 ⟨hle, hb3⟩
     unfold sharesE at hle
     rw [HE.out] at hle
     have B3 := hidE hb3
     clear hb3 HSH
     by_cases hz : E = 0
     ·rw [if_pos hz] at hle
      obtain ⟨v, rfl, hown⟩ := hle
      have hQ3 := HQ2.out
      rw [HE.out, if_neg (fun h => h hz)] at hQ3
      obtain ⟨h1, h2, h3, h4⟩ := checkShares_ok (HE.out.trans hz)
      have hlen := sharesP_len T claims
      obtain ⟨L, hL⟩ : ∃ L, sharesP T claims = L := ⟨_, rfl⟩
      have hbd := isum_take_bd (c := 100000) (by decide) (xs := L) (fun x hx => by rw [← hL] at hx; have := shares_le h4 x hx; omega)
      have hbe : ∀ x ∈ L, 0 ≤ x ∧ x ≤ 100000 := fun x hx => by rw [← hL] at hx; have := shares_le h4 x hx; omega
      have hsum := sharesP_sum h4
      have hnn := shares_nonneg h4
      rw [hL] at hown hlen hQ3 hsum hnn
      have HTK := hidE (fun k => isum_take_le hnn k)
      rw [hsum] at HTK
      rw [← hlen] at hQ3
      obtain ⟨o, c, rfl, hia, _⟩ := intsAt_of_owns hown
      have HIA := hidE hia
      have HBD := hidE hbd
      have HBE := hidE hbe
      have HLEN := hidE hlen
      have HLL := hidE h1
      subst hz
      rw [← hlen]
      obtain ⟨n, hn⟩ : ∃ n, L.length = n := ⟨_, rfl⟩
      have HN := hidE hn
      rw [hn] at hQ3 ⊢
      have HQ3 := hidE hQ3
      have hn50 : n ≤ 50 := by have := HN.out; have := HLEN.out; have := HLL.out; omega
      clear hsum hnn hQ3 h1 h2 h3 h4 hL hbd hbe hown hia hlen hn HE HQ2
      go_wp2_with fail
      go_loopw [0, 10, 38] (fun t v i wr => ∃ k : Nat, k ≤ n ∧ i = .int .i64 k ∧ t = .int .i64 (stakeAt fr up L k) ∧ Hid (wr.ownsRow w3.heap.size 3 1 v (stakesTo fr up L k).length (intsV (stakesTo fr up L k))) ∧ Hid (Below w3.heap.size w3 wr)) (fun _ _ i _ => n - (intOf i).toNat)
      case atStart => exact ⟨0, Nat.zero_le _, rfl, by unfold stakeAt; simp [isum], hidE (World.ownsRow_nil _ _ _ _), hidE (Below.refl _ _)⟩
      case round =>
       obtain ⟨k, hk, rfl, rfl, HO, HBB⟩ := hrel
       obtain ⟨wx, rfl⟩ : ∃ x : World, x = wr := ⟨wr, rfl⟩
       by_cases hlt : k < n
       ·have hkL : k < L.length := by rw [HN.out]; exact hlt
        obtain ⟨b, off, rfl, hbl, hc⟩ := HIA.out.at hkL
        rw [← HBB.out.cell hbl] at hc
        have hv := HBE.out _ (List.getElem_mem hkL)
        have hst := stakeAt_succ (fr := fr) (up := up) hkL
        have hbk := HBD.out k
        have hS := stakesTo_succ fr up L k
        obtain ⟨q, hq⟩ : ∃ q, L[k]'hkL = q := ⟨_, rfl⟩
        rw [hq] at hc hv hst
        have hsb : -5000000 ≤ stakeAt fr up L k ∧ stakeAt fr up L k ≤ 6000000 := by
         have h50 : n ≤ 50 := by have := HN.out; have := HLEN.out; have := HLL.out; omega
         unfold stakeAt; split <;> omega
        have htk := HTK.out k
        have htk1 := HTK.out (k + 1)
        rw [isum_take L hkL, hq] at htk1
        have hst : ∃ d : Int, stakeAt fr up L (k + 1) = stakeAt fr up L k + d ∧ ((up < fr → d = -q ∧ up ≤ stakeAt fr up L k - q) ∧ (¬ up < fr → d = q ∧ stakeAt fr up L k + q ≤ up)) := by
         refine ⟨_, hst, fun h => ⟨by rw [if_pos h], ?_⟩, fun h => ⟨by rw [if_neg h], ?_⟩⟩
         ·unfold stakeAt; rw [if_pos h]; omega
         ·unfold stakeAt; rw [if_neg h]; omega
        obtain ⟨d, hst, hd1, hd2⟩ := hst
        obtain ⟨s0, hs0⟩ : ∃ s, stakeAt fr up L k = s := ⟨_, rfl⟩
        obtain ⟨s1, hs1⟩ : ∃ s, stakeAt fr up L (k + 1) = s := ⟨_, rfl⟩
        rw [hs0, hs1] at hst
        rw [hs0] at hd1 hd2
        rw [hs1] at hS
        rw [hs0] at hsb ⊢
        have HS1 := hidE hs1
        obtain ⟨v5, wa, hrun1, own5, hb1, hk1⟩ := append_int HO.out s1 (by have := HN.out; have := HLEN.out; have := HLL.out; rw [stakesTo_len]; omega) HBB.out.size
        have HRUN1 := hidE hrun1
        have HO5 := hidE own5
        have HB5 := hidE (HBB.out.trans hb1)
        have HSS := hidE hS
        clear hrun1 own5 hk1 hb1 hS hs0 hs1 hq hbk
        have hwq : IntKind.i64.wrap (-q) = -q := IntWalk.i64_in _ (by omega)
        by_cases hud : up < s0
        ·have e1 : s1 = s0 + -q := by
          by_cases hf : up < fr
          ·have := hd1 hf; omega
          ·have := hd2 hf; omega
         have hws : IntKind.i64.wrap (s0 + -q) = s0 + -q := IntWalk.i64_in _ (by omega)
         subst e1
         have hdc : decide (up < s0) = true := by simp [hud]
         clear hst htk htk1 hd1 hd2
         go_wp2_with (at_builtin; (refine wpList_op_append rfl (s := .tmp 50) (x := .tmp 52) (t := 25) rfl rfl rfl HRUN1.out ?_))
         go_roundw
         case rel => exact ⟨k + 1, by omega, by go_num, by rw [HS1.out], hidE (by rw [HSS.out]; exact HO5.out), HB5⟩
         case measure => simp [intOf]; omega
        ·have e1 : s1 = s0 + q := by
          by_cases hf : up < fr
          ·have := hd1 hf; omega
          ·have := hd2 hf; omega
         have hws : IntKind.i64.wrap (s0 + q) = s0 + q := IntWalk.i64_in _ (by omega)
         subst e1
         have hdc : decide (up < s0) = false := by simp [hud]
         clear hst htk htk1 hd1 hd2
         go_wp2_with (at_builtin; (refine wpList_op_append rfl (s := .tmp 50) (x := .tmp 52) (t := 25) rfl rfl rfl HRUN1.out ?_))
         go_roundw
         case rel => exact ⟨k + 1, by omega, by go_num, by rw [HS1.out], hidE (by rw [HSS.out]; exact HO5.out), HB5⟩
         case measure => simp [intOf]; omega
       ·obtain rfl : k = n := by omega
        go_wp2_with fail
        go_ret2
        rw [← HQ3.out]
        exact ⟨⟨_, rfl, HO.out.mono B3.out.size⟩, B3.out.trans (HBB.out.mono B3.out.size)⟩
     ·rw [if_neg hz] at hle
      obtain ⟨v, rfl, hown⟩ := hle
      have hz3 : (E != 0) = true := by simpa using hz
      have hQ3 := HQ2.out
      rw [HE.out, if_pos hz] at hQ3
      subst hQ3
      clear hown HQ2 HE
      go_wp2_with fail
      go_ret2
      exact ⟨⟨.slice none 0 0, rfl, World.ownsRow_nil _ _ _ _⟩, B3.out⟩
end Go.Proofs.YthjmkmjojlfejaaGreat
namespace Go.Proofs.YthjmkmjojlfejaaGreat
def arcsTo (bs : List Bd) (flow : List Int) (k : Nat) : List Arc := arcsFrom flow 0 (bs.take k)
theorem arcsFrom_append (flow : List Int) : ∀ (i : Nat) (a b : List Bd), arcsFrom flow i (a ++ b) = arcsFrom flow i a ++ arcsFrom flow (i + a.length) b
 | i, [], b => by simp [arcsFrom]
 | i, x :: a, b => by
   simp only [List.cons_append, arcsFrom, List.length_cons]
   rw [arcsFrom_append flow (i + 1) a b, List.append_assoc, show i + 1 + a.length = i + (a.length + 1) by omega]
theorem arcsTo_succ {bs : List Bd} (flow : List Int) {k : Nat} (hk : k < bs.length) : arcsTo bs flow (k + 1) = arcsTo bs flow k ++ arcsAt flow k bs[k] := by
 unfold arcsTo
 rw [List.take_succ_eq_append_getElem hk, arcsFrom_append]
 simp [arcsFrom, List.length_take, Nat.min_eq_left (Nat.le_of_lt hk)]
theorem arcsTo_all (bs : List Bd) (flow : List Int) : arcsTo bs flow bs.length = arcsP bs flow := by unfold arcsTo arcsP; rw [List.take_length]
theorem arcsTo_zero (bs : List Bd) (flow : List Int) : arcsTo bs flow 0 = [] := by unfold arcsTo; simp [arcsFrom]
theorem arcsAt_len (flow : List Int) (i : Nat) (b : Bd) : (arcsAt flow i b).length = if 0 < flow.getD i 0 then 2 else 1 := by unfold arcsAt; split <;> rfl
theorem arcsTo_len (bs : List Bd) (flow : List Int) (k : Nat) (_hk : k ≤ bs.length) : (arcsTo bs flow k).length ≤ (arcsP bs flow).length := by
 have e : arcsP bs flow = arcsTo bs flow k ++ arcsFrom flow (0 + (bs.take k).length) (bs.drop k) := by
  unfold arcsP arcsTo
  rw [← arcsFrom_append, List.take_append_drop]
 rw [e, List.length_append]; omega
theorem arcsTo_succ_len {bs : List Bd} (flow : List Int) {k : Nat} (hk : k < bs.length) : (arcsTo bs flow k).length + (arcsAt flow k bs[k]).length ≤ (arcsP bs flow).length := by
 have := arcsTo_len bs flow (k + 1) hk
 rw [arcsTo_succ flow hk, List.length_append] at this
 exact this
structure FlOk (N : Nat) (bs : List Bd) (F : Fl) : Prop where
 neg : NoNeg (resid (arcsP bs F.flow))
 fl : F.flow.length = bs.length
 fb : ∀ x ∈ F.flow, 0 ≤ x ∧ x ≤ 1000000000000
 nl : F.need.length = 128
 nb : ∀ x ∈ F.need, -1000000000 ≤ x ∧ x ≤ 1000000000
def flB (N : Nat) (bs : List Bd) (F : Fl) : Bool :=
 (openedP N (resid (arcsP bs F.flow))).isSome && F.flow.length == bs.length && F.flow.all (fun x => decide (0 ≤ x) && decide (x ≤ 1000000000000)) && F.need.length == 128 && F.need.all (fun x => decide (-1000000000 ≤ x) && decide (x ≤ 1000000000))
theorem flB_ok {N : Nat} {bs : List Bd} {F : Fl} (hN : N ≤ 128) (hv : AllValid N bs) (h : flB N bs F = true) : FlOk N bs F := by
 unfold flB at h
 simp only [Bool.and_eq_true, beq_iff_eq, List.all_eq_true, decide_eq_true_eq] at h
 obtain ⟨⟨⟨⟨h1, h2⟩, h3⟩, h4⟩, h5⟩ := h
 exact ⟨(openedP_iff hN (arcs_valid F.flow hv)).1 h1, h2, h3, h4, h5⟩
inductive Runs (N : Nat) (bs : List Bd) : Fl → Option Fl → Prop
 | done {F : Fl} : FlOk N bs F → firstP N F.need = none → Runs N bs F (some F)
 | stuck {F : Fl} {p : Nat} : FlOk N bs F → firstP N F.need = some p → pushP N bs F p = some none → Runs N bs F none
 | step {F F' : Fl} {p : Nat} {R : Option Fl} : FlOk N bs F → firstP N F.need = some p → pushP N bs F p = some (some F') → Runs N bs F' R → Runs N bs F R
theorem Runs.last {N : Nat} {bs : List Bd} {F : Fl} {R : Option Fl} (h : Runs N bs F R) : ∀ F', R = some F' → FlOk N bs F' := by
 induction h with
 | done h _ => intro F' e; cases e; exact h
 | stuck _ _ _ => intro F' e; cases e
 | step _ _ _ _ ih => exact ih
def runsB (N : Nat) (bs : List Bd) : Nat → Fl → Option (Option Fl)
 | 0, _ => none
 | f + 1, F =>
   if flB N bs F = false then none
   else match firstP N F.need with
   | none => some (some F)
   | some p =>
     match pushP N bs F p with
     | none => none
     | some none => some none
     | some (some F') => runsB N bs f F'
theorem runsB_ok {N : Nat} {bs : List Bd} (hN : N ≤ 128) (hv : AllValid N bs) : ∀ (f : Nat) (F : Fl) (R : Option Fl), runsB N bs f F = some R → Runs N bs F R
 | 0, _, _, h => by cases h
 | f + 1, F, R, h => by
   unfold runsB at h
   split at h
   ·cases h
   ·rename_i hb
    have ok := flB_ok hN hv (by simpa using hb)
    split at h
    ·rename_i e; cases h; exact .done ok e
    ·rename_i p e
     split at h
     ·cases h
     ·rename_i e2; cases h; exact .stuck ok e e2
     ·rename_i F' e2; exact .step ok e e2 (runsB_ok hN hv f F' R h)
end Go.Proofs.YthjmkmjojlfejaaGreat
namespace Go.Proofs.YthjmkmjojlfejaaGreat
open Go Go.RowKit Go.Shelf
attribute [local go_sem] Oper.semAt_some
def Arc.cells (a : Arc) : List Value := [.int .i64 (a.bd : Int), .bool a.back, .int .i64 a.src, .int .i64 a.dst, .int .i64 a.cost]
def Arc.val (a : Arc) : Value := .agg #[.int .i64 (a.bd : Int), .bool a.back, .int .i64 a.src, .int .i64 a.dst, .int .i64 a.cost]
abbrev ArcIn (A : List Arc) := { a : Arc // a ∈ A }
def encA (A : List Arc) (x : ArcIn A) : Array Value := #[x.1.val]
structure KeepsC (B : Nat) (Fix : Nat → Prop) (W W' : World) : Prop where
 keep : KeepsB Fix W W'
 new : ∀ k c t f, B ≤ k → W.heap[k]? = some (.cells c t f) → W'.heap[k]? = some (.cells c t f)
theorem KeepsC.trans {B : Nat} {Fix : Nat → Prop} {X Y Z : World} (h : KeepsC B Fix X Y) (k : KeepsC B Fix Y Z) : KeepsC B Fix X Z := ⟨h.keep.trans k.keep, fun q c t f hq hc => k.new q c t f hq (h.new q c t f hq hc)⟩
set_option maxRecDepth 100000 in
set_option maxHeartbeats 2000000 in
theorem arcs_in (l bn N : Nat) (Fix : Nat → Prop) (w W : World) (a : Option Addr) (cap : Nat) (bs : List Bd) (aF : Option Addr) (capF : Nat) (flow : List Int) (_hN : N ≤ 128)
 (hl : bs.length ≤ 4000) (hv : AllValid N bs) (hfl : flow.length = bs.length) (hB : BoundsAt w a bs) (hF : IntsAt w aF flow) (hFix : ∀ b, Fix b → b < w.heap.size) (f1 : Fix bn) (fa : ∀ x, a = some x → 0 < bs.length → Fix x.block) (ff : ∀ x, aF = some x → 0 < bs.length → Fix x.block)
 (hc1 : w.cell? ⟨bn, 1, none⟩ = some (.slice a bs.length cap)) (hc2 : w.cell? ⟨bn, 2, none⟩ = some (.slice aF bs.length capF)) (hw : KeepsB Fix w W)
 (J : List (ArcIn (arcsP bs flow)) → World → Prop) (hJ : AbidesFrom W.heap.size J)
 (hY : ∀ pre x W1, J pre W1 → pre.length < (arcsP bs flow).length → YieldAt Fence.wide 6 Tryz.prog l (encA (arcsP bs flow) x) W1 fun e W' => e = .returned (.bool true) ∧ J (pre ++ [x]) W' ∧ KeepsC w.heap.size Fix W1 W')
 (h0 : J [] W) :
 CallsIn Fence.wide 7 Tryz.prog 192 #[.pointer (some ⟨bn, 0, none⟩), .func (.yield l) #[] #[]] W fun e W' => (∃ v, e = .returned v) ∧ ∃ ys, ys.map (·.1) = arcsP bs flow ∧ J ys W' := by
 have H := hidE hB
 have HFl := hidE hF
 have HV := hidE hv
 have HY := hidE hY
 have HJ := hidE hJ
 have HFix := hidE hFix
 have HFa := hidE fa
 have HFf := hidE ff
 have HLEN := hidE hfl
 have d1 : W.cell? ⟨bn, 1, none⟩ = some (.slice a bs.length cap) := (hw.cell (by exact f1)).trans hc1
 clear hB hF hv hY hJ hFix fa ff hfl
 refine callsIn_of_wp Tryz.func192 rfl trivial ?_ rfl
 simp only [Tryz.ntmps192, List.size_toArray, List.length_cons, List.length_nil, Nat.reduceAdd, Nat.reduceSub, Array.replicate_succ, Array.replicate_zero, List.push_toArray, List.append_toArray, List.nil_append, List.cons_append]
 gi_wp2
 gi_loopw [12] (fun i wr => ∃ (k : Nat) (pre : List (ArcIn (arcsP bs flow))), k ≤ bs.length ∧ i = .int .i64 k ∧ Hid (pre.map (·.1) = arcsTo bs flow k) ∧ Hid (J pre wr) ∧ KeepsB Fix w wr)
  (fun i _ => bs.length - (intOf i).toNat)
 case atStart => exact ⟨0, [], Nat.zero_le _, rfl, hidE (by rw [arcsTo_zero]; rfl), hidE h0, hw⟩
 case round =>
  obtain ⟨k, pre, hk, rfl, hpre, hJs, hkp⟩ := hrel
  by_cases hlt : k < bs.length
  ·obtain ⟨b, off, rfl, hbl, hcs⟩ := H.out.at hlt
   have fb := HFa.out _ rfl (by omega)
   obtain ⟨c0, c1, c2, c3⟩ := hcs
   rw [← hkp.cell (by exact fb)] at c0 c1 c2 c3
   have hmem : bs[k] ∈ bs := List.getElem_mem hlt
   obtain ⟨_, _, _, _, v5, v6⟩ := HV.out _ hmem
   have hm1 := hidE (mem_arcsP (flow := flow) |>.2 ⟨k, hlt, .inl rfl⟩)
   have hm2 := hidE (fun h => mem_arcsP (flow := flow) |>.2 ⟨k, hlt, .inr ⟨rfl, h⟩⟩)
   have hsl := arcsTo_succ_len flow hlt
   have hss := arcsTo_succ flow hlt
   have hal0 := arcsAt_len flow k bs[k]
   have hplen : pre.length = (arcsTo bs flow k).length := by rw [← hpre.out, List.length_map]
   have hlen1 : pre.length < (arcsP bs flow).length := by rw [hplen]; split at hal0 <;> omega
   obtain ⟨bF, offF, rfl, hblF, hcF⟩ := HFl.out.at (k := k) (by rw [HLEN.out]; exact hlt)
   have fF := HFf.out _ rfl (by omega)
   have hal : J pre (wr.alloc (.cells #[.int .i64 bs[k].src, .int .i64 bs[k].dst, .int .i64 bs[k].most, .int .i64 bs[k].rcd] 81)) := HJ.out pre wr _ none hJs.out (World.grownBy_alloc _ _ _) (fun r e => by cases e)
   have hka : KeepsB Fix w (wr.alloc (.cells #[.int .i64 bs[k].src, .int .i64 bs[k].dst, .int .i64 bs[k].most, .int .i64 bs[k].rcd] 81)) := hkp.trans (KeepsB.below ((Below.refl _ _).alloc (Nat.le_refl _) _) (fun b hb => Nat.lt_of_lt_of_le (HFix.out b hb) hkp.size))
   have e0 : flow.getD k 0 = flow[k]'(by rw [HLEN.out]; exact hlt) := by rw [List.getD_eq_getElem?_getD, List.getElem?_eq_getElem]; rfl
   obtain ⟨z, hz⟩ : ∃ z, flow[k]'(by rw [HLEN.out]; exact hlt) = z := ⟨_, rfl⟩
   rw [hz] at e0 hcF
   rw [e0] at hm2 hal0
   have harcs : arcsAt flow k bs[k] = fwdArc k bs[k] :: (if 0 < z then [bwdArc k bs[k]] else []) := by unfold arcsAt; rw [e0]
   obtain ⟨y, hy0⟩ : ∃ y, bs[k] = y := ⟨_, rfl⟩
   rw [hy0] at c0 c1 c2 c3 v5 v6 hm1 hm2 hsl hss hal0 harcs hal hka hmem
   obtain ⟨ys, yd, ym, yr⟩ := y
   simp only at c0 c1 c2 c3 v5 v6 hal hka
   have wneg : IntKind.i64.wrap (-ym) = -ym := IntWalk.i64_in _ (by omega)
   obtain ⟨fn, tmps, assign, body, hy, hR⟩ := HY.out pre ⟨_, hm1.out⟩ _ hal hlen1
   dsimp only [encA, Arc.val, fwdArc] at hy
   have hA := heap_alloc_new wr (.cells #[.int .i64 ys, .int .i64 yd, .int .i64 ym, .int .i64 yr] 81)
   have HSS := hidE hss
   have HAR := hidE harcs
   have HPRE := hpre
   have HKA := hidE hka
   have HR := hidE hR
   have HZ := hidE hz
   have HE0 := hidE e0
   have HY0 := hidE hy0
   have HHA := hidE hA
   have HHal := hidE hal
   clear hR hka hss harcs hz e0 hy0 hA hmem hal
   gi_wp2_with fail
   refine HR.out.mono ?_
   rintro e W2 ⟨rfl, hJ2, hk2⟩
   have hx2 := hk2.new _ _ _ _ hkp.size HHA.out
   have HK2 := hidE (HKA.out.trans hk2.keep)
   have hf2 := hJ2
   have g2 : W2.cell? ⟨bn, 2, none⟩ = some (.slice (some ⟨bF, offF, none⟩) bs.length capF) := (HK2.out.cell (by exact f1)).trans hc2
   have g3 : W2.cell? ⟨bF, offF + k, none⟩ = some (.int .i64 z) := (HK2.out.cell (by exact fF)).trans hcF
   have hlen2 : (pre ++ [(⟨_, hm1.out⟩ : ArcIn (arcsP bs flow))]).map (·.1) = arcsTo bs flow k ++ [fwdArc k bs[k]] := by rw [List.map_append, HPRE.out, HY0.out]; rfl
   have HL2 := hidE hlen2
   have HJ2 := hidE hJ2
   have HX2 := hidE hx2
   clear hk2 hx2 hJ2 hf2 hlen2 HR HHA HHal HKA
   by_cases hpos : 0 < z
   ·have dp : decide (0 < z) = true := by simpa using hpos
    have x0 : W2.cell? ⟨wr.heap.size, 0, none⟩ = some (.int .i64 ys) := c_e HX2.out rfl
    have x1 : W2.cell? ⟨wr.heap.size, 1, none⟩ = some (.int .i64 yd) := c_e HX2.out rfl
    have x2 : W2.cell? ⟨wr.heap.size, 2, none⟩ = some (.int .i64 ym) := c_e HX2.out rfl
    obtain ⟨fn2, tmps2, assign2, body2, hy2, hR2⟩ := HY.out _ ⟨_, hm2.out hpos⟩ W2 HJ2.out (by
     rw [List.length_append, hplen]; rw [if_pos hpos] at hal0; simp only [List.length_cons, List.length_nil]; omega)
    dsimp only [encA, Arc.val, bwdArc] at hy2
    have HR2 := hidE hR2
    clear hR2
    gi_wp2_with fail
    refine HR2.out.mono ?_
    rintro e W3 ⟨rfl, hJ3, hk3⟩
    have HJ3 := hidE hJ3
    have HK3 := hidE (HK2.out.trans hk3.keep)
    have HL3 := hidE (show ((pre ++ [(⟨_, hm1.out⟩ : ArcIn (arcsP bs flow))]) ++ [(⟨_, hm2.out hpos⟩ : ArcIn (arcsP bs flow))]).map (·.1) = arcsTo bs flow (k + 1) by
     rw [List.map_append, HL2.out, HSS.out, HAR.out, if_pos hpos, HY0.out]; simp)
    clear hJ3 hk3 HR2
    gi_wp2_with fail
    go_roundw
    case rel => exact ⟨k + 1, _, by omega, by go_num, HL3, HJ3, HK3.out⟩
    case measure => simp [intOf]; omega
   ·have dp : decide (0 < z) = false := by simpa using hpos
    have HL3 := hidE (show (pre ++ [(⟨_, hm1.out⟩ : ArcIn (arcsP bs flow))]).map (·.1) = arcsTo bs flow (k + 1) by
     rw [HL2.out, HSS.out, HAR.out, if_neg hpos, HY0.out])
    gi_wp2_with fail
    refine ⟨fun _ h => (by cases h), ?_⟩
    gi_wp2_with fail
    go_roundw
    case rel => exact ⟨k + 1, _, by omega, by go_num, HL3, HJ2, HK2.out⟩
    case measure => simp [intOf]; omega
  ·obtain rfl : k = bs.length := by omega
   gi_wp2
   go_end0
   exact ⟨⟨_, rfl⟩, _, by rw [hpre.out, arcsTo_all], hJs.out⟩
def arcsA (l : List Arc) : Array Value := (l.flatMap Arc.cells).toArray
theorem arc_cells_len (a : Arc) : a.cells.length = 5 := rfl
theorem arcsA_size (l : List Arc) : (arcsA l).size = l.length * 5 := by unfold arcsA; simp only [List.size_toArray]; exact flatMap_len arc_cells_len l
theorem arcsA_get (l : List Arc) {i : Nat} (h : i < l.length) {j : Nat} (hj : j < 5) : (arcsA l)[i * 5 + j]? = (l[i].cells)[j]? := by
 unfold arcsA
 simp only [List.getElem?_toArray]
 exact flatMap_get arc_cells_len l i h j hj
theorem arcsA_getD (l : List Arc) {i : Nat} (h : i < l.length) {j : Nat} (hj : j < 5) : (arcsA l)[i * 5 + j]? = ((getA l (i : Int)).cells)[j]? := by
 rw [arcsA_get l h hj]
 unfold getA
 simp [List.getD_eq_getElem?_getD, h]
theorem arcsA_set (l : List Arc) (i : Nat) (h : i < l.length) (a : Arc) :
 (((((arcsA l).setIfInBounds (i * 5) (.int .i64 (a.bd : Int))).setIfInBounds (i * 5 + 1) (.bool a.back)).setIfInBounds (i * 5 + 2) (.int .i64 a.src)).setIfInBounds (i * 5 + 3) (.int .i64 a.dst)).setIfInBounds (i * 5 + 4) (.int .i64 a.cost) = arcsA (l.set i a) := by
 have hs := arcsA_size l
 apply Array.ext_getElem?
 intro k
 simp only [Array.getElem?_setIfInBounds, Array.size_setIfInBounds, hs]
 have hk : k = k / 5 * 5 + k % 5 := by omega
 have hm : k % 5 < 5 := Nat.mod_lt _ (by omega)
 obtain ⟨q, hq⟩ : ∃ q, k / 5 = q := ⟨_, rfl⟩
 obtain ⟨r, hr⟩ : ∃ r, k % 5 = r := ⟨_, rfl⟩
 rw [hq, hr] at hk
 rw [hr] at hm
 subst hk
 by_cases hlt : q < l.length
 ·rw [arcsA_get l hlt hm, arcsA_get (l.set i a) (by simpa using hlt) hm, List.getElem_set]
  by_cases e : i = q
  ·subst e
   rw [if_pos rfl]
   have hb : i * 5 + r < l.length * 5 := by omega
   have : r = 0 ∨ r = 1 ∨ r = 2 ∨ r = 3 ∨ r = 4 := by omega
   rcases this with rfl | rfl | rfl | rfl | rfl <;> simp [Arc.cells] <;> omega
  ·rw [if_neg e]
   rw [if_neg (by omega), if_neg (by omega), if_neg (by omega), if_neg (by omega), if_neg (by omega)]
 ·have n1 : (arcsA l)[q * 5 + r]? = none := Array.getElem?_eq_none (by rw [hs]; omega)
  have n2 : (arcsA (l.set i a))[q * 5 + r]? = none := Array.getElem?_eq_none (by rw [arcsA_size, List.length_set]; omega)
  rw [n1, n2]
  rw [if_neg (by omega), if_neg (by omega), if_neg (by omega), if_neg (by omega), if_neg (by omega)]
theorem arcs_zero : Tryz.zeroCells159 = arcsA (List.replicate 128 arc0) := by kernel_rfl
structure SSt (w W : World) (B bc bk b8 : Nat) (s : Sh) (m : Bool) : Prop where
 cost : W.heap[bc]? = some (.cells (rowA s.c) 153 (0,0))
 known : W.heap[bk]? = some (.cells (boolA s.k) 156 (0,0))
 x1 : W.heap[w.heap.size]? = some (.cells #[.pointer (some ⟨bc, 0, none⟩)] 161 (0,0))
 x2 : W.heap[w.heap.size + 1]? = some (.cells #[.pointer (some ⟨bk, 0, none⟩)] 162 (0,0))
 res : W.heap[w.heap.size + 1 + 1]? = some (.cells Tryz.zeroCells159 159 (0,0))
 by_ : W.heap[w.heap.size + 1 + 1 + 1]? = some (.cells (arcsA s.by_) 159 (0,0))
 more : W.heap[b8]? = some (.cells #[.bool m] 4 (0,0))
 b8 : w.heap.size + 4 ≤ b8
 bl : Below B w W
theorem SSt.keep {w W W' : World} {B bc bk b8 : Nat} {s : Sh} {m : Bool} (h : SSt w W B bc bk b8 s m) (hk : ∀ (k : Nat) (c : Array Value) (t : TypeId), W.heap[k]? = some (Obj.cells c t (0,0)) → W'.heap[k]? = some (Obj.cells c t (0,0))) (hb : Below B W W') : SSt w W' B bc bk b8 s m :=
 ⟨hk _ _ _ h.cost, hk _ _ _ h.known, hk _ _ _ h.x1, hk _ _ _ h.x2, hk _ _ _ h.res, hk _ _ _ h.by_, hk _ _ _ h.more, h.b8, h.bl.trans hb⟩
theorem SSt.setMore {w W : World} {B bc bk b8 : Nat} {s : Sh} {m : Bool} (h : SSt w W B bc bk b8 s m) (hc : bc < w.heap.size) (hk : bk < w.heap.size) (hB : B ≤ w.heap.size) (m' : Bool) : SSt w (W.setCell ⟨b8, 0, none⟩ (.bool m')) B bc bk b8 s m' := by
 have h8 := h.b8
 refine ⟨?_, ?_, ?_, ?_, ?_, ?_, ?_, h8, h.bl.setCell (by show B ≤ b8; omega) _⟩
 ·rw [heap_setCell_other _ _ _ _ (by show bc ≠ b8; omega)]; exact h.cost
 ·rw [heap_setCell_other _ _ _ _ (by show bk ≠ b8; omega)]; exact h.known
 ·rw [heap_setCell_other _ _ _ _ (by show _ ≠ b8; omega)]; exact h.x1
 ·rw [heap_setCell_other _ _ _ _ (by show _ ≠ b8; omega)]; exact h.x2
 ·rw [heap_setCell_other _ _ _ _ (by show _ ≠ b8; omega)]; exact h.res
 ·rw [heap_setCell_other _ _ _ _ (by show _ ≠ b8; omega)]; exact h.by_
 ·exact heap_setCell_same _ _ _ _ _ _ h.more
theorem SSt.upd {w W : World} {B bc bk b8 N : Nat} {s : Sh} {m : Bool} (h : SSt w W B bc bk b8 s m) (hc : bc < w.heap.size) (hk : bk < w.heap.size) (hB : B ≤ w.heap.size) (hBc : B ≤ bc) (hBk : B ≤ bk) (hck : bc ≠ bk) (hwh : s.whole) (hN : N ≤ 128) (a : Arc) (d : Nat) (hd : a.dst = d) (hdN : d < N) :
 SSt w (((((((W.setCell ⟨bc, d, none⟩ (.int .i64 (getI s.c a.src + a.cost))).setCell ⟨bk, d, none⟩ (.bool true)).setCell ⟨w.heap.size + 1 + 1 + 1, d * 5, none⟩ (.int .i64 (a.bd : Int))).setCell ⟨w.heap.size + 1 + 1 + 1, d * 5 + 1, none⟩ (.bool a.back)).setCell ⟨w.heap.size + 1 + 1 + 1, d * 5 + 2, none⟩ (.int .i64 a.src)).setCell ⟨w.heap.size + 1 + 1 + 1, d * 5 + 3, none⟩ (.int .i64 (d : Int))).setCell ⟨w.heap.size + 1 + 1 + 1, d * 5 + 4, none⟩ (.int .i64 a.cost)) B bc bk b8 (s.upd a) m := by
 have h8 := h.b8
 obtain ⟨w1, w2, w3⟩ := hwh
 have ed : a.dst.toNat = d := by rw [hd]; simp
 have q1 : ∀ (X : World) (g o : Nat) (v : Value) (c : Array Value) (t : TypeId), X.heap[g]? = some (Obj.cells c t (0,0)) → (X.setCell ⟨g, o, none⟩ v).heap[g]? = some (Obj.cells (c.setIfInBounds o v) t (0,0)) := fun X g o v c t hh => heap_setCell_same _ _ _ _ _ _ hh
 have q2 : ∀ (X : World) (g o : Nat) (v : Value) (k : Nat), k ≠ g → (X.setCell ⟨g, o, none⟩ v).heap[k]? = X.heap[k]? := fun X g o v k hh => heap_setCell_other _ _ _ _ hh
 refine ⟨?_, ?_, ?_, ?_, ?_, ?_, ?_, h8, ?_⟩
 ·rw [q2 _ _ _ _ _ (by omega), q2 _ _ _ _ _ (by omega), q2 _ _ _ _ _ (by omega), q2 _ _ _ _ _ (by omega), q2 _ _ _ _ _ (by omega), q2 _ _ _ _ _ hck, q1 _ _ _ _ _ _ h.cost, rowA_set]
  simp only [Sh.upd, ed]
 ·rw [q2 _ _ _ _ _ (by omega), q2 _ _ _ _ _ (by omega), q2 _ _ _ _ _ (by omega), q2 _ _ _ _ _ (by omega), q2 _ _ _ _ _ (by omega), q1 _ _ _ _ (boolA s.k) 156 (by rw [q2 _ _ _ _ _ hck.symm]; exact h.known)]
  simp only [Sh.upd, ed]
  congr 2
  simp [boolA, boolsV, List.map_set]
 ·rw [q2 _ _ _ _ _ (by omega), q2 _ _ _ _ _ (by omega), q2 _ _ _ _ _ (by omega), q2 _ _ _ _ _ (by omega), q2 _ _ _ _ _ (by omega), q2 _ _ _ _ _ (by omega), q2 _ _ _ _ _ (by omega)]; exact h.x1
 ·rw [q2 _ _ _ _ _ (by omega), q2 _ _ _ _ _ (by omega), q2 _ _ _ _ _ (by omega), q2 _ _ _ _ _ (by omega), q2 _ _ _ _ _ (by omega), q2 _ _ _ _ _ (by omega), q2 _ _ _ _ _ (by omega)]; exact h.x2
 ·rw [q2 _ _ _ _ _ (by omega), q2 _ _ _ _ _ (by omega), q2 _ _ _ _ _ (by omega), q2 _ _ _ _ _ (by omega), q2 _ _ _ _ _ (by omega), q2 _ _ _ _ _ (by omega), q2 _ _ _ _ _ (by omega)]; exact h.res
 ·have e0 := arcsA_set s.by_ d (by omega) a
  rw [hd] at e0
  refine (q1 _ _ _ _ _ _ (q1 _ _ _ _ _ _ (q1 _ _ _ _ _ _ (q1 _ _ _ _ _ _ (q1 _ _ _ _ (arcsA s.by_) 159 ?_))))).trans ?_
  ·rw [q2 _ _ _ _ _ (by omega), q2 _ _ _ _ _ (by omega)]; exact h.by_
  ·rw [e0]
   simp only [Sh.upd, ed]
 ·rw [q2 _ _ _ _ _ (by omega), q2 _ _ _ _ _ (by omega), q2 _ _ _ _ _ (by omega), q2 _ _ _ _ _ (by omega), q2 _ _ _ _ _ (by omega), q2 _ _ _ _ _ (by omega), q2 _ _ _ _ _ (by omega)]; exact h.more
 ·exact ((((((h.bl.setCell (by show B ≤ bc; omega) _).setCell (by show B ≤ bk; omega) _).setCell (by show B ≤ w.heap.size + 1 + 1 + 1; omega) _).setCell (by show B ≤ w.heap.size + 1 + 1 + 1; omega) _).setCell (by show B ≤ w.heap.size + 1 + 1 + 1; omega) _).setCell (by show B ≤ w.heap.size + 1 + 1 + 1; omega) _).setCell (by show B ≤ w.heap.size + 1 + 1 + 1; omega) _
theorem intsAt_of {w W : World} {a : Option Addr} {l : List Int} (h : IntsAt w a l) (hk : ∀ x, a = some x → 0 < l.length → W.heap[x.block]? = w.heap[x.block]?) (hs : w.heap.size ≤ W.heap.size) : IntsAt W a l := by
 rcases h with h | ⟨b, off, e, hl, hc⟩
 ·exact .inl h
 ·exact .inr ⟨b, off, e, by omega, fun i hi => (World.cell?_of_block (w := w) (a := ⟨b, off + i, none⟩) (hk ⟨b, off, none⟩ e (by omega))).trans (hc i hi)⟩
theorem boundsAt_of {w W : World} {a : Option Addr} {l : List Bd} (h : BoundsAt w a l) (hk : ∀ x, a = some x → 0 < l.length → W.heap[x.block]? = w.heap[x.block]?) (hs : w.heap.size ≤ W.heap.size) : BoundsAt W a l := by
 rcases h with h | ⟨b, off, e, hl, hc⟩
 ·exact .inl h
 ·refine .inr ⟨b, off, e, by omega, fun i hi => ?_⟩
  have q : ∀ j, W.cell? ⟨b, off + i * 4 + j, none⟩ = w.cell? ⟨b, off + i * 4 + j, none⟩ := fun j => World.cell?_of_block (w := w) (a := ⟨b, off + i * 4 + j, none⟩) (hk ⟨b, off, none⟩ e (by omega))
  obtain ⟨c0, c1, c2, c3⟩ := hc i hi
  exact ⟨(q 0).trans c0, (q 1).trans c1, (q 2).trans c2, (q 3).trans c3⟩
theorem arcsA_one (l : List Arc) : (arcsA l).all (·.oneCell') = true := by
 unfold arcsA
 rw [Array.all_eq_true_iff_forall_mem]
 intro v hv
 simp only [List.mem_toArray, List.mem_flatMap] at hv
 obtain ⟨a, _, hv⟩ := hv
 simp only [Arc.cells, List.mem_cons, List.not_mem_nil, or_false] at hv
 rcases hv with rfl | rfl | rfl | rfl | rfl <;> rfl
theorem cell_set_other (W : World) (p q : Addr) (v : Value) (h : q.block ≠ p.block) : (W.setCell p v).cell? q = W.cell? q := World.cell?_of_block (w := W) (heap_setCell_other _ _ _ _ h)
def ArcS2 (S bc bk Bx abd : Nat) (aback : Bool) (si di : Nat) (ac : Int) (V : World) : Prop :=
 V.cell? ⟨S, 0, none⟩ = some (.pointer (some ⟨bc, 0, none⟩)) ∧ V.cell? ⟨S + 1, 0, none⟩ = some (.pointer (some ⟨bk, 0, none⟩)) ∧ V.cell? ⟨Bx, 0, none⟩ = some (.int .i64 (abd : Int)) ∧ V.cell? ⟨Bx, 1, none⟩ = some (.bool aback) ∧
 V.cell? ⟨Bx, 2, none⟩ = some (.int .i64 (si : Int)) ∧ V.cell? ⟨Bx, 3, none⟩ = some (.int .i64 (di : Int)) ∧ V.cell? ⟨Bx, 4, none⟩ = some (.int .i64 ac)
theorem ArcS2.set {S bc bk Bx abd : Nat} {aback : Bool} {si di : Nat} {ac : Int} {V : World} (h : ArcS2 S bc bk Bx abd aback si di ac V) (g o : Nat) (v : Value) (h1 : g ≠ S) (h2 : g ≠ S + 1) (h3 : g ≠ Bx) : ArcS2 S bc bk Bx abd aback si di ac (V.setCell ⟨g, o, none⟩ v) := by
 obtain ⟨a0, a1, a2, a3, a4, a5, a6⟩ := h
 exact ⟨(cell_set_other _ _ _ _ (Ne.symm h1)).trans a0, (cell_set_other _ _ _ _ (Ne.symm h2)).trans a1, (cell_set_other _ _ _ _ (Ne.symm h3)).trans a2, (cell_set_other _ _ _ _ (Ne.symm h3)).trans a3, (cell_set_other _ _ _ _ (Ne.symm h3)).trans a4, (cell_set_other _ _ _ _ (Ne.symm h3)).trans a5, (cell_set_other _ _ _ _ (Ne.symm h3)).trans a6⟩
structure RkSt (w6 wr : World) (lb go : Nat) (s : Rk) : Prop where
 l : wr.heap[lb]? = some (.cells #[.int .i64 s.left] 3 (0,0))
 g : wr.heap[go]? = some (.cells (rowA s.out) 3 (0,0))
 sz : w6.heap.size ≤ wr.heap.size
 ot : ∀ q : Nat, q < w6.heap.size → q ≠ lb → q ≠ go → wr.heap[q]? = w6.heap[q]?
 b0 : Below 0 w6 wr
theorem intsAt_keep {w w' : World} {a : Option Addr} {l : List Int} (h : IntsAt w a l) (hk : ∀ q : Nat, q < w.heap.size → w'.heap[q]? = w.heap[q]?) (hs : w.heap.size ≤ w'.heap.size) : IntsAt w' a l := by
 rcases h with h | ⟨b, off, e, hb, hc⟩
 ·exact .inl h
 ·refine .inr ⟨b, off, e, by omega, fun i hi => ?_⟩
  rw [World.cell?_of_block (w := w) (a := ⟨b, off + i, none⟩) (hk b hb)]
  exact hc i hi
set_option maxRecDepth 100000 in
set_option maxHeartbeats 16000000 in
theorem rankedE_any (w : World) (found : Int) (aC aR : Option Addr) (cC cR : Nat) (claims ranks : List Int) (hlC : claims.length ≤ 9223372036854775807) (hlR : ranks.length ≤ 9223372036854775807) (hC : IntsAt w aC claims) (hR : IntsAt w aR ranks) :
 Calls Tryz.prog 28 #[.int .i64 found, .slice aC claims.length cC, .slice aR ranks.length cR] w fun e w' => ListErr (rankedE found claims ranks).1 (rankedE found claims ranks).2 w.heap.size e w' ∧ Below w.heap.size w w' := by
 obtain ⟨Q, hQ⟩ : ∃ Q, rankedE found claims ranks = Q := ⟨_, rfl⟩
 rw [hQ]
 have HQ := hidE hQ
 have HC := hidE hC
 have HR := hidE hR
 obtain ⟨V0, hV0⟩ : ∃ W, W = w.alloc (.cells #[.slice aC claims.length cC] 25) := ⟨_, rfl⟩
 obtain ⟨W0, hW0⟩ : ∃ W, W = V0.alloc (.cells #[.slice aR ranks.length cR] 25) := ⟨_, rfl⟩
 have hVs : V0.heap.size = w.heap.size + 1 := by rw [hV0]; simp
 have hWs : W0.heap.size = w.heap.size + 2 := by rw [hW0]; simp [hVs]
 have B0 := hidE (show Below w.heap.size w W0 by rw [hW0, hV0]; exact ((Below.refl _ _).alloc (Nat.le_refl _) _).alloc (by simp) _)
 have X1 := hidE (show W0.heap[w.heap.size]? = some (.cells #[.slice aC claims.length cC] 25 (0,0)) by rw [hW0, Below.heap_alloc _ _ _ (by omega), hV0]; exact heap_alloc_new _ _)
 have X2 := hidE (show W0.heap[w.heap.size + 1]? = some (.cells #[.slice aR ranks.length cR] 25 (0,0)) by rw [hW0, ← hVs]; exact heap_alloc_new _ _)
 have c1 : W0.cell? ⟨w.heap.size, 0, none⟩ = some (.slice aC claims.length cC) := cell_of_one X1.out
 have HWS := hidE hWs
 have HV0 := hidE hV0
 have HW0 := hidE hW0
 have HCK := hidE (checkShares_any W0 found aC cC claims hlC (HC.out.below B0.out (Nat.le_refl _)))
 obtain ⟨E, hE⟩ : ∃ E, checkSharesP found claims = E := ⟨_, rfl⟩
 rw [hE] at HCK
 have HE := hidE hE
 clear hQ hC hR hV0 hW0 hVs hWs hE
 go_enter Tryz.func28, Tryz.ntmps28
 go_wp2_with fail
 rw [← HV0.out, ← HW0.out]
 refine wp_scope_straight ?_
 go_wp2_with fail
 refine HCK.out.mono ?_
 rintro e w1 ⟨rfl, hb1⟩
 have B1 := hidE hb1
 have BB1 := hidE (B0.out.trans (hb1.mono B0.out.size))
 have d1 : w1.cell? ⟨w.heap.size, 0, none⟩ = some (.slice aC claims.length cC) := by rw [B1.out.cell (p := ⟨w.heap.size, 0, none⟩) (by have := HWS.out; show w.heap.size < _; omega)]; exact c1
 have d2 : w1.cell? ⟨w.heap.size + 1, 0, none⟩ = some (.slice aR ranks.length cR) := by rw [B1.out.cell (p := ⟨w.heap.size + 1, 0, none⟩) (by have := HWS.out; show w.heap.size + 1 < _; omega)]; exact cell_of_one X2.out
 clear hb1 HCK c1
 by_cases hz : E = 0
 ·have hQ2 := HQ.out
  unfold rankedE at hQ2
  rw [HE.out, if_neg (fun h => h hz)] at hQ2
  have HQ2 := hidE hQ2
  subst hz
  clear hQ2 HQ
  by_cases hlen : ranks.length = claims.length
  ·have HLN := hidE hlen
   have hn50 := (checkShares_ok HE.out).1
   obtain ⟨n, hn⟩ : ∃ n, claims.length = n := ⟨_, rfl⟩
   have HN := hidE hn
   rw [hlen, hn] at d2
   rw [hn] at d1 hn50
   rw [hlen, hn]
   have HALL := hidE (by
    have := all_any w1 aR cR ranks 85 #[] (fun v => inR v 0 1000000) hlR (HR.out.below BB1.out (Nat.le_refl _)) (fun k hk W hb => (rank1_any W ranks[k]).mono fun _ _ ⟨he, hw⟩ => ⟨he, hw ▸ Below.refl _ _⟩) (enters_of Tryz.func85 (by kernel_rfl) rfl)
    rw [hlen, hn] at this; exact this)
   obtain ⟨A, hA⟩ : ∃ A, (ranks.all fun v => inR v 0 1000000) = A := ⟨_, rfl⟩
   rw [hA] at HALL
   have HA := hidE hA
   clear hlen hn hA hlC hlR
   go_wp2_with fail
   refine HALL.out.mono ?_
   rintro e w2 ⟨rfl, hb2⟩
   have B2 := hidE (B1.out.trans (hb2.mono B1.out.size))
   have BB2 := hidE (BB1.out.trans (hb2.mono BB1.out.size))
   have e1 : w2.cell? ⟨w.heap.size, 0, none⟩ = some (.slice aC n cC) := by rw [hb2.cell (p := ⟨w.heap.size, 0, none⟩) (by have := HWS.out; have := B1.out.size; show w.heap.size < _; omega)]; exact d1
   clear hb2 d1 d2 HALL
   cases A with
   | false =>
     obtain rfl : ([], (1 : Int)) = Q := by have := HQ2.out; rw [HA.out, if_pos (.inr rfl)] at this; exact this
     go_wp2_with fail
     simp only [Exit.noGoto]
     refine bodyPost_ret (v := .tuple #[.slice none 0 0, .int .i64 1]) (by simp [results, Tryz.results28, go_sem]) rfl ⟨⟨.slice none 0 0, rfl, World.ownsRow_nil _ _ _ _⟩, BB2.out⟩
   | true =>
     have hQ3 := HQ2.out
     rw [HA.out, HLN.out, if_neg (by simp)] at hQ3
     have HQ3 := hidE hQ3
     clear hQ3 HQ2
     have hmk3 := fun W => run_make_row' (P := Tryz.prog) 25 3 (.int .i64 0) 8 Tryz.underlying25 Tryz.info3' rfl .i64 .i64 n (by omega) (by omega) W
     go_upto_region 9 with fail
     obtain ⟨W3, hW3⟩ : ∃ W, W = ((w2.alloc (.cells (madeCells #[.int .i64 0] n) 3)).alloc (.cells #[.slice (some ⟨w2.heap.size, 0, none⟩) n n] 25)).alloc (.cells #[.int .i64 found] 3) := ⟨_, rfl⟩
     rw [← hW3]
     have h3s : W3.heap.size = w2.heap.size + 3 := by rw [hW3]; simp
     have B3 := hidE (show Below w2.heap.size w2 W3 by rw [hW3]; exact (((Below.refl _ _).alloc (Nat.le_refl _) _).alloc (by simp) _).alloc (by simp; omega) _)
     have G3 := hidE (show W3.heap[w2.heap.size]? = some (.cells (rowA (List.replicate n 0)) 3 (0,0)) by
      rw [hW3, Below.heap_alloc _ _ _ (by simp; omega), Below.heap_alloc _ _ _ (by simp), heap_alloc_new, madeInts])
     have O3 := hidE (show W3.heap[w2.heap.size + 1]? = some (.cells #[.slice (some ⟨w2.heap.size, 0, none⟩) n n] 25 (0,0)) by
      rw [hW3, Below.heap_alloc _ _ _ (by simp)]
      have := heap_alloc_new (w2.alloc (.cells (madeCells #[.int .i64 0] n) 3)) (.cells #[.slice (some ⟨w2.heap.size, 0, none⟩) n n] 25)
      rwa [show (w2.alloc (.cells (madeCells #[.int .i64 0] n) 3)).heap.size = w2.heap.size + 1 by simp] at this)
     have L3 := hidE (show W3.heap[w2.heap.size + 1 + 1]? = some (.cells #[.int .i64 found] 3 (0,0)) by
      have := heap_alloc_new ((w2.alloc (.cells (madeCells #[.int .i64 0] n) 3)).alloc (.cells #[.slice (some ⟨w2.heap.size, 0, none⟩) n n] 25)) (.cells #[.int .i64 found] 3)
      rw [show ((w2.alloc (.cells (madeCells #[.int .i64 0] n) 3)).alloc (.cells #[.slice (some ⟨w2.heap.size, 0, none⟩) n n] 25)).heap.size = w2.heap.size + 1 + 1 by simp] at this
      rw [hW3]; exact this)
     have hs0 : w.heap.size + 2 ≤ w2.heap.size := by have := HWS.out; have := B2.out.size; omega
     have R3 := hidE (show W3.heap[w.heap.size + 1]? = some (.cells #[.slice aR n cR] 25 (0,0)) by
      rw [B3.out.block _ (by omega), B2.out.block _ (by have := HWS.out; omega)]
      have := X2.out; rw [HLN.out, HN.out] at this; exact this)
     have C3 := hidE (show W3.heap[w.heap.size]? = some (.cells #[.slice aC n cC] 25 (0,0)) by
      rw [B3.out.block _ (by omega), B2.out.block _ (by have := HWS.out; omega)]
      have := X1.out; rw [HN.out] at this; exact this)
     have BB3 := hidE (BB2.out.trans (B3.out.mono BB2.out.size))
     have r3 : W3.cell? ⟨w.heap.size + 1, 0, none⟩ = some (.slice aR n cR) := cell_of_one R3.out
     have H3S := hidE h3s
     clear hmk3 hW3 h3s e1
     go_wp2_with fail
     refine (slValues_any W3 aR n cR).mono ?_
     rintro e w4 ⟨rfl, hw4⟩
     have B4 := hidE (show Below W3.heap.size W3 w4 by rw [hw4]; exact (Below.refl _ _).alloc (Nat.le_refl _) _)
     have HSO := hidE (sorted_any w4 W3.heap.size aR cR ranks (by rw [HLN.out, HN.out]; omega) (HR.out.below (BB3.out.trans (B4.out.mono BB3.out.size)) (Nat.le_refl _)) (by rw [hw4, HLN.out, HN.out]; exact heap_alloc_new _ _))
     clear hw4 r3
     go_wp2_with fail
     refine HSO.out.mono ?_
     rintro e w5 ⟨⟨v5, rfl, ho5⟩, hb5⟩
     have B5 := hidE (B4.out.trans (hb5.mono B4.out.size))
     have HCO := hidE (compactSorted_any w5 w4.heap.size v5 ranks (by rw [HLN.out, HN.out]; omega) ho5)
     have S5 := hidE hb5.size
     clear ho5 hb5 HSO
     go_wp2_with fail
     refine HCO.out.mono ?_
     rintro e w6 ⟨v6, rfl, ho6, hb6⟩
     have B6 := hidE (B5.out.trans (hb6.mono B4.out.size))
     rw [show Lib.compact (sortP ranks) = orderP ranks from rfl] at ho6
     have hole := order_le ranks
     rw [HLN.out, HN.out] at hole
     have HOR := hidE (fun (i : Nat) => (rfl : (orderP ranks).getD i 0 = (orderP ranks).getD i 0))
     have HON := hidE (fun (h : 0 < found) => order_ne HE.out HLN.out h)
     obtain ⟨O, hO⟩ : ∃ O, orderP ranks = O := ⟨_, rfl⟩
     have HOO := hidE hO
     rw [hO] at ho6 hole HON
     obtain ⟨o6, c6, rfl, hi6, _⟩ := intsAt_of_owns ho6
     have HI6 := hidE hi6
     have HO6 := hidE ho6
     have S6 := hidE (Nat.le_trans B4.out.size (Nat.le_trans S5.out hb6.size))
     obtain ⟨m, hm⟩ : ∃ m, O.length = m := ⟨_, rfl⟩
     have HM := hidE hm
     rw [hm] at hole ⊢
     have BW6 := hidE (BB3.out.trans (B6.out.mono BB3.out.size))
     have HK0 := hidE (rankStart_ok (ranks := ranks) HE.out HLN.out)
     have HS4 := hidE B4.out.size
     clear hO ho6 hi6 hb6 hm HCO HOR
     have hm50 : m ≤ 50 := by omega
     have HST0 := hidE (show RkSt w6 w6 (w2.heap.size + 1 + 1) w2.heap.size (rankStart found claims) from ⟨(B6.out.block _ (by have := H3S.out; omega)).trans L3.out, by
      rw [B6.out.block _ (by have := H3S.out; omega), G3.out]; unfold rankStart; rw [HN.out], Nat.le_refl _, fun _ _ _ _ => rfl, Below.refl _ _⟩)
     have h6s : w2.heap.size + 3 ≤ w6.heap.size := by have := H3S.out; have := B6.out.size; omega
     have HGV := hidE (fun (wr : World) (s : Rk) (hs : RkSt w6 wr (w2.heap.size + 1 + 1) w2.heap.size s) (hol : s.out.length = claims.length) => show GvAt wr w.heap.size (w.heap.size + 1) (w2.heap.size + 1 + 1) (w2.heap.size + 1) w2.heap.size cC cR n aC aR claims ranks s from by
      have h3 := H3S.out
      refine ⟨?_, ?_, hs.l, ?_, hs.g, ?_, ?_, by omega, ⟨by omega, by omega⟩, ⟨by omega, by omega⟩, by omega, by omega⟩
      ·rw [hs.ot _ (by omega) (by omega) (by omega), B6.out.block _ (by omega), C3.out, HN.out]
      ·rw [hs.ot _ (by omega) (by omega) (by omega), B6.out.block _ (by omega), R3.out, HLN.out, HN.out]
      ·rw [hs.ot _ (by omega) (by omega) (by omega), B6.out.block _ (by omega), O3.out, hol, HN.out]
      ·exact intsAt_keep HC.out (fun q hq => (hs.ot q (by omega) (by omega) (by omega)).trans (BW6.out.block q hq)) (by have := hs.sz; omega)
      ·exact intsAt_keep HR.out (fun q hq => (hs.ot q (by omega) (by omega) (by omega)).trans (BW6.out.block q hq)) (by have := hs.sz; omega))
     have HI6k := hidE (fun (wr : World) (s : Rk) (hs : RkSt w6 wr (w2.heap.size + 1 + 1) w2.heap.size s) (b f k : Nat) (e : o6 = some ⟨b, f, none⟩) (hb : b < w6.heap.size) => show wr.cell? ⟨b, f + k, none⟩ = w6.cell? ⟨b, f + k, none⟩ from by
      have hge := (HO6.out.lt b (by rw [e]; simp [Value.ownBlock])).1
      have h3 := H3S.out
      have h4 := HS4.out
      exact World.cell?_of_block (w := w6) (a := ⟨b, f + k, none⟩) (hs.ot b hb (by omega) (by omega)))
     go_wp2_with fail
     refine wp_label ?_
     go_upto_block 0 with fail
     go_cut [14] (fun _ wc => ∃ s, Hid (s = rankEnd found claims ranks) ∧ Hid (RkSt w6 wc (w2.heap.size + 1 + 1) w2.heap.size s) ∧ ∃ k, k ≤ 51 ∧ Hid (GvK claims ranks found k s))
     case first =>
      go_wp2_with fail
      go_loopw [42] (fun i wr => ∃ (k : Nat) (s : Rk), k ≤ m ∧ i = .int .i64 k ∧ Hid (giveGo claims ranks (O.drop k) s = rankEnd found claims ranks) ∧ Hid (RkSt w6 wr (w2.heap.size + 1 + 1) w2.heap.size s) ∧ Hid (GvK claims ranks found k s)) (fun i _ => m - (intOf i).toNat)
      case atStart => exact ⟨0, rankStart found claims, Nat.zero_le _, rfl, hidE (by rw [List.drop_zero]; unfold rankEnd; rw [HOO.out]), HST0, HK0⟩
      case round =>
       obtain ⟨k, s, hk, rfl, HG, HST, HGK⟩ := hrel
       obtain ⟨wx, rfl⟩ : ∃ x : World, x = wr := ⟨wr, rfl⟩
       by_cases hlt : k < m
       ·have hkO : k < O.length := by rw [HM.out]; exact hlt
        obtain ⟨b6, f6, e6, hbl6, hc6⟩ := HI6.out.at hkO
        rw [← HI6k.out wx s HST.out b6 f6 k e6 hbl6] at hc6
        have hdr : O.drop k = O[k] :: O.drop (k + 1) := List.drop_eq_getElem_cons hkO
        have hG := HG.out
        rw [hdr] at hG
        unfold giveGo at hG
        obtain ⟨rr, hrr⟩ : ∃ z, O[k]'hkO = z := ⟨_, rfl⟩
        rw [hrr] at hc6 hG
        have HGI := hidE (give_any wx w.heap.size (w.heap.size + 1) (w2.heap.size + 1 + 1) (w2.heap.size + 1) w2.heap.size cC cR n aC aR claims ranks rr true s (HGV.out wx s HST.out HGK.out.ol) (HGK.out.ok (by omega)))
        have HGK2 := hidE (HGK.out.step rr true)
        obtain ⟨P, hP⟩ : ∃ P, giveR claims ranks rr true s = P := ⟨_, rfl⟩
        rw [hP] at HGI hG HGK2
        obtain ⟨p1, p2⟩ := P
        have HG2 := hidE hG
        subst e6
        clear hP hG hrr hdr
        go_wp2_with fail
        refine HGI.out.mono ?_
        rintro e w7 ⟨rfl, hl7, hg7, hs7, ho7, hz7⟩
        have hszx := HST.out.sz
        have HST7 := hidE (show RkSt w6 w7 (w2.heap.size + 1 + 1) w2.heap.size p2 from ⟨hl7, hg7, Nat.le_trans hszx hs7, fun q hq h1 h2 => (ho7 q (by omega) h1 h2).trans (HST.out.ot q hq h1 h2), HST.out.b0.trans hz7⟩)
        clear hz7 hl7 hg7 hs7 ho7 hc6 HGI
        cases p1 with
        | true =>
          have HG3 := hidE (show giveGo claims ranks (O.drop (k + 1)) p2 = rankEnd found claims ranks by have := HG2.out; simpa using this)
          clear HG2
          go_wp2_with fail
          go_roundw
          case rel => exact ⟨k + 1, p2, by omega, by go_num, HG3, HST7, HGK2⟩
          case measure => simp [intOf]; omega
        | false =>
          have HG3 := hidE (show p2 = rankEnd found claims ranks by have := HG2.out; simpa using this)
          clear HG2
          go_wp2_with fail
          go_meet
          case rel => exact ⟨p2, HG3, HST7, k + 1, by omega, HGK2⟩
       ·obtain rfl : k = m := by omega
        have HG3 := hidE (show s = rankEnd found claims ranks by have := HG.out; rw [← HM.out, List.drop_length] at this; exact this)
        go_wp2_with fail
        go_meet
        case rel => exact ⟨s, HG3, HST, k, by omega, HGK⟩
     case rest =>
      obtain ⟨s, HSE, HST, k, hk, HGK⟩ := hcut
      have HFIN := hidE (fun (wr : World) (s' : Rk) (hs : RkSt w6 wr (w2.heap.size + 1 + 1) w2.heap.size s') => show Below w.heap.size w wr from
       BW6.out.trans ⟨hs.b0.os, hs.b0.tape, hs.b0.output, hs.sz, fun q hq => hs.ot q (by have := BW6.out.size; omega) (by omega) (by omega)⟩)
      have HOB := hidE (fun (wr : World) (s' : Rk) (hs : RkSt w6 wr (w2.heap.size + 1 + 1) w2.heap.size s') => show wr.cell? ⟨w2.heap.size + 1, 0, none⟩ = some (.slice (some ⟨w2.heap.size, 0, none⟩) n n) from by
       refine cell_of_one (t := 25) ?_
       rw [hs.ot _ (by omega) (by omega) (by omega), B6.out.block _ (by have := H3S.out; omega), O3.out])
      have HOW := hidE (fun (wr : World) (s' : Rk) (hs : RkSt w6 wr (w2.heap.size + 1 + 1) w2.heap.size s') (hol : s'.out.length = claims.length) => show wr.ownsRow w.heap.size 3 1 (.slice (some ⟨w2.heap.size, 0, none⟩) n n) s'.out.length (intsV s'.out) from by
       have := owns_of_block (base := w.heap.size) (show w.heap.size ≤ w2.heap.size by omega) hs.g (by rw [hol, HN.out]; omega)
       rw [hol, HN.out] at this ⊢; exact this)
      have hQ := HQ3.out
      rw [← HSE.out] at hQ
      unfold lastR at hQ
      rw [HOO.out, HM.out] at hQ
      obtain ⟨lf, hlf⟩ : ∃ z, s.left = z := ⟨_, rfl⟩
      have hlb := HGK.out.lf
      have hfd := HGK.out.fd
      have q0 : wc.cell? ⟨w2.heap.size + 1 + 1, 0, none⟩ = some (.int .i64 lf) := by rw [cell_of_one HST.out.l, hlf]
      rw [hlf] at hlb hQ
      by_cases hp : 0 < lf
      ·have hd : decide (lf > 0) = true := by simpa using hp
       have hd' : decide (0 < lf) = true := by simpa using hp
       have hm0 : 0 < m := by have := HON.out (by omega); have := HM.out; omega
       rw [if_pos hp] at hQ
       obtain ⟨j, hj⟩ : ∃ j, m - 1 = j := ⟨_, rfl⟩
       have hjO : j < O.length := by have := HM.out; omega
       rw [hj, getD_get _ _ hjO] at hQ
       obtain ⟨b6, f6, e6, hbl6, hc6⟩ := HI6.out.at hjO
       rw [← HI6k.out wc s HST.out b6 f6 j e6 hbl6] at hc6
       obtain ⟨rr, hrr⟩ : ∃ z, O[j]'hjO = z := ⟨_, rfl⟩
       rw [hrr] at hc6 hQ
       have HGI := hidE (give_any wc w.heap.size (w.heap.size + 1) (w2.heap.size + 1 + 1) (w2.heap.size + 1) w2.heap.size cC cR n aC aR claims ranks rr false s (HGV.out wc s HST.out HGK.out.ol) (HGK.out.ok (by omega)))
       have HGK2 := hidE (HGK.out.step rr false)
       obtain ⟨P, hP⟩ : ∃ P, giveR claims ranks rr false s = P := ⟨_, rfl⟩
       rw [hP] at HGI hQ HGK2
       obtain ⟨p1, p2⟩ := P
       have HQ4 := hidE hQ
       subst e6
       have hwj : IntKind.i64.wrap ((m : Int) - 1) = (j : Int) := by rw [IntWalk.i64_in _ (by omega)]; omega
       have hjm : (j : Int) < (m : Int) := by omega
       have hj0 : (0 : Int) ≤ (j : Int) := by omega
       have hjn : j < m := by omega
       clear hP hQ hrr hj hlf
       go_wp2_with fail
       refine HGI.out.mono ?_
       rintro e w7 ⟨rfl, hl7, hg7, hs7, ho7, hz7⟩
       have hszx := HST.out.sz
       have HST7 := hidE (show RkSt w6 w7 (w2.heap.size + 1 + 1) w2.heap.size p2 from ⟨hl7, hg7, Nat.le_trans hszx hs7, fun q hq h1 h2 => (ho7 q (by omega) h1 h2).trans (HST.out.ot q hq h1 h2), HST.out.b0.trans hz7⟩)
       have q1 := HOB.out w7 p2 HST7.out
       clear hl7 hg7 hs7 ho7 hz7 hc6 HGI q0
       cases p1 with
       | true =>
         obtain rfl : (p2.out, (0 : Int)) = Q := by have := HQ4.out; simpa using this
         go_wp2_with fail
         try simp only [Exit.noGoto]
         refine bodyPost_ret (v := .tuple #[.slice (some ⟨w2.heap.size, 0, none⟩) n n, .int .i64 0]) (by simp [results, Tryz.results28, go_sem]) rfl ⟨⟨_, rfl, HOW.out w7 p2 HST7.out HGK2.out.ol⟩, HFIN.out w7 p2 HST7.out⟩
       | false =>
         obtain rfl : ([], (51 : Int)) = Q := by have := HQ4.out; simpa using this
         go_wp2_with fail
         try simp only [Exit.noGoto]
         refine bodyPost_ret (v := .tuple #[.slice none 0 0, .int .i64 51]) (by simp [results, Tryz.results28, go_sem]) rfl ⟨⟨.slice none 0 0, rfl, World.ownsRow_nil _ _ _ _⟩, HFIN.out w7 p2 HST7.out⟩
      ·have hd : decide (lf > 0) = false := by simpa using hp
       have hd' : decide (0 < lf) = false := by simpa using hp
       rw [if_neg hp] at hQ
       have q1 := HOB.out wc s HST.out
       clear hlf
       obtain rfl : (s.out, (0 : Int)) = Q := hQ
       go_wp2_with fail
       try simp only [Exit.noGoto]
       refine bodyPost_ret (v := .tuple #[.slice (some ⟨w2.heap.size, 0, none⟩) n n, .int .i64 0]) (by simp [results, Tryz.results28, go_sem]) rfl ⟨⟨_, rfl, HOW.out wc s HST.out HGK.out.ol⟩, HFIN.out wc s HST.out⟩
  ·have hne : ((ranks.length : Int) != (claims.length : Int)) = true := by simp; omega
   obtain rfl : ([], (1 : Int)) = Q := by have := HQ2.out; rw [if_pos (.inl hlen)] at this; exact this
   go_wp2_with fail
   simp only [Exit.noGoto]
   refine bodyPost_ret (v := .tuple #[.slice none 0 0, .int .i64 1]) (by simp [results, Tryz.results28, go_sem]) rfl ⟨⟨.slice none 0 0, rfl, World.ownsRow_nil _ _ _ _⟩, BB1.out⟩
 ·have hz3 : (E != 0) = true := by simpa using hz
  obtain rfl : ([], E) = Q := by have := HQ.out; unfold rankedE at this; rw [HE.out, if_pos hz] at this; exact this
  go_wp2_with fail
  simp only [Exit.noGoto]
  refine bodyPost_ret (v := .tuple #[.slice none 0 0, .int .i64 E]) (by simp [results, Tryz.results28, go_sem]) rfl ⟨⟨.slice none 0 0, rfl, World.ownsRow_nil _ _ _ _⟩, BB1.out⟩
end Go.Proofs.YthjmkmjojlfejaaGreat
