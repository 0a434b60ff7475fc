/- Merged text 10 of the base: Lm5, Lm6, Lm7, Lm8, Lm9, Lm10, C9, D1, E22, D0, D2, D3, D4, D5. No conditions beyond those stated. -/
import Derived.Test.YtkhemfnlflbniaaGreatDoorB09
import Derived.Great.Walk
import Derived.Test.YtkhemfnlflbniaaGreatDoorB08
import Derived.Laws.StructEq
import Derived.Laws.Rows
namespace Go.Proofs.YtkhemfnlflbniaaGreatDoor
def ptS (F : Fld) (i s : Int) : Nat := (ptF F i s).toNat
theorem ptS_bd {F : Fld} {i s : Int} (hi : limB F i = true) (hs : staB F s = true) : 1 ≤ ptS F i s ∧ ptS F i s < ptN F ∧ (ptS F i s : Int) = ptF F i s := by
 have := pt_bd hi hs
 unfold ptS
 omega
theorem limB_iff {F : Fld} {i : Int} : limB F i = true ↔ 0 ≤ i ∧ i < F.lms.length := by unfold limB inR; simp only [Bool.and_eq_true, decide_eq_true_eq]; omega
theorem staB_iff {F : Fld} {i : Int} : staB F i = true ↔ 0 ≤ i ∧ i < F.sts.length := by unfold staB inR; simp only [Bool.and_eq_true, decide_eq_true_eq]; omega
def thereB (p : Par) (s : Int) : Bool := decide (p.wst ≤ s) && decide (s < p.est)
def sureE (F : Fld) (l : List Rcd) (p : Par) (s : Int) : Int × Int := (highE F l (ptS F p.south s), lowE F l (ptS F (p.south + 1) s))
theorem par_lims {F : Fld} (hf : F.check = 0) {p : Par} (hp : p ∈ F.prs) : limB F p.south = true ∧ limB F (p.south + 1) = true := by
 have g := (fld_facts hf).2.2.2.2.1
 rw [List.any_eq_false] at g
 have := g p hp
 unfold parRange inR at this
 simp only [Bool.not_eq_true', Bool.not_eq_false, Bool.and_eq_true, decide_eq_true_eq] at this
 rw [limB_iff, limB_iff]
 omega
def clampE (y a b : Int) : Int := min (max y a) b
def cutP (lo hi a b : Int) : Int × Int × Int := (clampE lo a b - a, clampE hi a b - clampE lo a b, b - clampE hi a b)
theorem cut_north {lo hi a b : Int} (hab : a < b) (h : lo ≤ hi) : cutP lo hi a b = (0, 0, b - a) ↔ hi ≤ a := by
 unfold cutP clampE
 simp only [Prod.mk.injEq]
 omega
theorem cut_south {lo hi a b : Int} (hab : a < b) (h : lo ≤ hi) : cutP lo hi a b = (b - a, 0, 0) ↔ b ≤ lo := by
 unfold cutP clampE
 simp only [Prod.mk.injEq]
 omega
def idleB (F : Fld) (l : List Rcd) (id : Int) : Bool := (List.range (ptN F)).all fun a => (List.range (ptN F)).all fun b => decide (distN (ptN F) (sysL F (withoutId l id)) a b = distN (ptN F) (sysL F l) a b)
theorem idle_iff {F : Fld} {l : List Rcd} {id : Int} : idleB F l id = true ↔ ∀ a b, a < ptN F → b < ptN F → distN (ptN F) (sysL F (withoutId l id)) a b = distN (ptN F) (sysL F l) a b := by
 unfold idleB
 simp only [List.all_eq_true, List.mem_range, decide_eq_true_eq]
 exact ⟨fun h a b ha hb => h a ha b hb, fun h a ha b hb => h a b ha hb⟩
theorem asked_ok {F : Fld} {l : List Rcd} (h : Good F l) {ps : List Int} (hp : ∀ p ∈ ps, 0 ≤ p ∧ p < ptN F) : askedE (ptN F) (sysL F l) ps = if agreeB F l = true then 0 else 10 := by
 unfold askedE
 rw [if_neg (by rw [sys_check h]; simp), if_neg]
 ·unfold agreeB keptP
  cases openedP (ptN F) (sysL F l) <;> simp
 ·unfold pointP
  rw [if_neg]
  ·simp
  ·simp only [List.any_eq_true, not_exists, not_and]
   intro p hp2
   have := hp p hp2
   unfold inR
   simp only [Bool.not_eq_true', Bool.not_eq_false, Bool.and_eq_true, decide_eq_true_eq]
   omega
theorem between_eq {F : Fld} {l : List Rcd} (h : Good F l) (ha : agreeB F l = true) {a b : Nat} (h1 : a < ptN F) (h2 : b < ptN F) :
 betweenP (ptN F) (sysL F l) a b = (⟨-distN (ptN F) (sysL F l) b a, distN (ptN F) (sysL F l) a b, true, true⟩, 0) := by
 have T := tied h ha
 have k : askedE (ptN F) (sysL F l) [(a : Int), (b : Int)] = 0 := by
  rw [asked_ok h (by simp; omega), if_pos ha]
 unfold betweenP
 rw [if_pos k]
 simp only [Int.toNat_natCast]
 have e1 := T.fin a b h1 h2
 have e2 := T.fin b a h2 h1
 unfold farI at e1 e2
 unfold spP nV nB
 rw [if_neg (by omega), if_neg (by omega), decide_eq_true (by omega), decide_eq_true (by omega)]
theorem region_eq {F : Fld} {l : List Rcd} (h : Good F l) (ha : agreeB F l = true) {p : Nat} (h1 : p < ptN F) :
 betweenP (ptN F) (sysL F l) 0 p = (⟨lowE F l p, highE F l p, true, true⟩, 0) := between_eq h ha (a := 0) (pt_le h.fld).1 h1
theorem sys_len {F : Fld} {l : List Rcd} (h : Good F l) : (sysL F l).length ≤ 2000 := by
 have := sys_check h
 unfold checkP at this
 by_cases q : 128 < (ptN F : Int) ∨ 2000 < (sysL F l).length
 ·rw [if_pos q] at this; exact absurd this (by decide)
 ·omega
def cornB (F : Fld) (i s : Int) : Bool := limB F i && staB F s
def flagE (b : Bool) : Int := if b = true then 0 else 1
def matchE (F : Fld) (l : List Rcd) (more : Int) : Int := if (checkE F l).2 ≠ 0 then (checkE F l).2 else if more ≠ 0 then more else if agreeB F l = true then 0 else 40
theorem match_zero {F : Fld} {l : List Rcd} {more : Int} : matchE F l more = 0 ↔ Good F l ∧ more = 0 ∧ agreeB F l = true := by
 unfold matchE
 rw [← check_iff]
 by_cases h1 : (checkE F l).2 ≠ 0
 ·rw [if_pos h1]
  exact ⟨fun h => absurd h h1, fun h => absurd h.1 h1⟩
 ·rw [if_neg h1]
  by_cases h2 : more ≠ 0
  ·rw [if_pos h2]
   exact ⟨fun h => absurd h h2, fun h => absurd h.2.1 h2⟩
  ·rw [if_neg h2]
   by_cases h3 : agreeB F l = true
   ·rw [if_pos h3]
    exact ⟨fun _ => ⟨Classical.not_not.1 h1, Classical.not_not.1 h2, h3⟩, fun _ => rfl⟩
   ·rw [if_neg h3]
    exact ⟨fun h => absurd h (by decide), fun h => absurd h.2.2 h3⟩
def regionE (F : Fld) (l : List Rcd) (i s : Int) : Int × Int × Int :=
 if matchE F l (flagE (cornB F i s)) ≠ 0 then (0, 0, matchE F l (flagE (cornB F i s))) else (lowE F l (ptS F i s), highE F l (ptS F i s), 0)
def widthE (F : Fld) (l : List Rcd) (i s j t : Int) : Int × Int × Int :=
 if matchE F l (flagE (cornB F i s && cornB F j t)) ≠ 0 then (0, 0, matchE F l (flagE (cornB F i s && cornB F j t)))
 else (-distN (ptN F) (sysL F l) (ptS F j t) (ptS F i s), distN (ptN F) (sysL F l) (ptS F i s) (ptS F j t), 0)
def stripB (F : Fld) (i s a b : Int) : Bool := cornB F i s && (decide (0 ≤ a) && decide (a < b) && decide (b ≤ 100000))
def partsE (F : Fld) (l : List Rcd) (i s a b : Int) : (Int × Int × Int) × Int :=
 if matchE F l (flagE (stripB F i s a b)) ≠ 0 then ((0, 0, 0), matchE F l (flagE (stripB F i s a b))) else (cutP (lowE F l (ptS F i s)) (highE F l (ptS F i s)) a b, 0)
def awardOf (lo hi a b : Int) : Int := if hi ≤ a then 1 else if b ≤ lo then 2 else 0
def awardE (F : Fld) (l : List Rcd) (i s a b : Int) : Int × Int :=
 if matchE F l (flagE (stripB F i s a b)) ≠ 0 then (0, matchE F l (flagE (stripB F i s a b))) else (awardOf (lowE F l (ptS F i s)) (highE F l (ptS F i s)) a b, 0)
def rcd0 : Rcd := ⟨0, 0, ByteArray.empty, 0, 0, ⟨0, 0, 0, 0, 0, 0, 0, crs0⟩⟩
def parAt (F : Fld) (i : Nat) : Par := F.prs.getD i par0
def sureLE (F : Fld) (l : List Rcd) (parcel s : Int) : Int × Int × Int :=
 if matchE F l (flagE (inR parcel 0 ((F.prs.length : Int) - 1) && staB F s)) ≠ 0 then (0, 0, matchE F l (flagE (inR parcel 0 ((F.prs.length : Int) - 1) && staB F s)))
 else if thereB (parAt F parcel.toNat) s = false then (0, 0, 5)
 else if (sureE F l (parAt F parcel.toNat) s).2 ≤ (sureE F l (parAt F parcel.toNat) s).1 then (0, 0, 0) else ((sureE F l (parAt F parcel.toNat) s).1, (sureE F l (parAt F parcel.toNat) s).2, 0)
theorem inR_iff {v a b : Int} : inR v a b = true ↔ a ≤ v ∧ v ≤ b := by unfold inR; simp only [Bool.and_eq_true, decide_eq_true_eq]
end Go.Proofs.YtkhemfnlflbniaaGreatDoor
namespace Go.Proofs.YtkhemfnlflbniaaGreatDoor
open Go Go.RowKit Go.Shelf
def itvV : Option (Int × Int) × Int → Value
 | (none, e) => .tuple #[.int .i64 0, .int .i64 0, .bool false, .int .i64 e]
 | (some p, e) => .tuple #[.int .i64 p.1, .int .i64 p.2, .bool true, .int .i64 e]
theorem itv_common {l : List Vrn} {c : Crs} (dx : Int) (h : commonE l c ≠ 0) : itvE l c dx = (none, commonE l c) := by
 unfold commonE itvE at *
 split
 ·rfl
 ·split
  ·rfl
  ·rename_i h1 h2
   rw [if_neg h1, if_neg h2] at h
   cases hd : declP l c.year with
   | none => simp
   | some e => rw [hd] at h; simp at h
theorem itv_of {l : List Vrn} {c : Crs} (dx : Int) (h : commonE l c = 0) : c.ok = true ∧ ∃ e, declP l c.year = some e ∧ itvE l c dx = if dx = 0 ∨ inR dx (-100000) 100000 = false then (none, 1) else (fitBoth c e dx, 0) := by
 unfold commonE itvE at *
 by_cases h1 : checkVrns l ≠ 0
 ·rw [if_pos h1] at h; exact absurd h h1
 ·rw [if_neg h1] at h ⊢
  by_cases h2 : c.ok = false
  ·rw [if_pos h2] at h; omega
  ·rw [if_neg h2] at h ⊢
   cases hd : declP l c.year with
   | none => rw [hd] at h; simp at h
   | some e => exact ⟨by simpa using h2, e, rfl, rfl⟩
set_option maxHeartbeats 2000000 in
theorem commonC_any (w : World) (a : Option Addr) (cap : Nat) (l : List Vrn) (c : Crs) (g : Nat) (dx : Int) (hl : l.length ≤ 9223372036854775807) (h : VrnsAt w a l) (hg : w.heap[g]? = some (.cells c.vals 46 (0,0))) :
 Calls Tryz.prog 295 #[.slice a l.length cap, .slice (some ⟨g, 0, none⟩) 1 1, .int .i64 dx] w fun r w' => r = .returned (itvV (itvE l c dx)) ∧ Below w.heap.size w w' := by
 obtain ⟨R, hR⟩ : ∃ R, itvV (itvE l c dx) = R := ⟨_, rfl⟩
 rw [hR]
 have J0 := hidE (show VC w a l g c w from ⟨Below.refl _ _, h, hg⟩)
 have HC := hidE (fun W (J : VC w a l g c W) => common1_any W a cap l c g hl J.v J.k)
 by_cases h0 : commonE l c = 0
 rotate_left
 ·rw [itv_common dx h0] at hR
  obtain ⟨z, hz⟩ : ∃ z, commonE l c = z := ⟨_, rfl⟩
  rw [hz] at hR HC h0
  have hzb : (z != 0) = true := by simpa using h0
  subst hR
  clear h0 hz h hg
  go_enter Tryz.func295, Tryz.ntmps295
  go_wp2_with fail
  refine (HC.out _ J0.out).mono ?_
  rintro e w1 ⟨rfl, hb1⟩
  go_wp2_with fail
  refine bodyPost_ret (v := itvV (none, z)) (by simp [results, Tryz.results295, go_sem, itvV]) rfl ⟨rfl, hb1⟩
 obtain ⟨hok, e, he, hE⟩ := itv_of dx h0
 rw [hE] at hR
 rw [h0] at HC
 have HST := hidE (fun W => stepC_any dx 0 W)
 have hr0 : inR 0 (-100000) 100000 = true := rfl
 rw [hr0] at HST
 by_cases h1 : dx = 0 ∨ inR dx (-100000) 100000 = false
 ·rw [if_pos h1] at hR
  subst hR
  rw [if_pos (by rcases h1 with q | q; exact .inl q; exact .inr (.inl q))] at HST
  clear h0 hE he hok h1 h hg hr0
  go_enter Tryz.func295, Tryz.ntmps295
  go_wp2_with fail
  refine (HC.out _ J0.out).mono ?_
  rintro e w1 ⟨rfl, hb1⟩
  go_wp2_with fail
  refine (HST.out _).mono ?_
  rintro e w2 ⟨rfl, rfl⟩
  go_wp2_with fail
  refine bodyPost_ret (v := itvV (none, 1)) (by simp [results, Tryz.results295, go_sem, itvV]) rfl ⟨rfl, hb1⟩
 rw [if_neg h1] at hR
 rw [if_neg (by rintro (q | q | q); exact h1 (.inl q); exact h1 (.inr q); cases q)] at HST
 have hdx : dx ≠ 0 ∧ -100000 ≤ dx ∧ dx ≤ 100000 := by
  refine ⟨fun q => h1 (.inl q), ?_⟩
  have : inR dx (-100000) 100000 = true := by
   cases q : inR dx (-100000) 100000
   ·exact absurd (.inr q) h1
   ·rfl
  exact inR_iff.1 this
 have HI := hidE (fun W (J : VC w a l g c W) => itvD_any W a cap l c e dx hok he hdx hl J.v)
 have hF := fun p q => fitBoth_bd (c := c) (east := e) (dx := dx) (a := p) (b := q)
 obtain ⟨r, hr⟩ : ∃ r, fitBoth c e dx = r := ⟨_, rfl⟩
 rw [hr] at HI hF hR
 have HF := hidE hF
 have HR := hidE hR
 clear h0 hE he hok h1 h hg hr0 hr hdx hF hR
 obtain ⟨c1, c2, c3, c4, c5, c6⟩ := c
 unfold Crs.val Crs.vals at *
 dsimp only at *
 cases r with
 | none =>
   have hR := HR.out
   subst hR
   clear HR HF
   unfold fitV at HI
   dsimp only at HI
   go_enter Tryz.func295, Tryz.ntmps295
   go_wp2_with fail
   refine (HC.out _ J0.out).mono ?_
   rintro e w1 ⟨rfl, hb1⟩
   have J1 := hidE (J0.out.next hb1)
   clear hb1 J0 HC
   go_wp2_with fail
   refine (HST.out _).mono ?_
   rintro e w2 ⟨rfl, rfl⟩
   go_wp2_with fail
   go_loopw [6, 7, 38] (fun x y i wr => i = .int .i64 0 ∧ x = .int .i64 (-100000) ∧ y = .int .i64 100000 ∧ Hid (VC w a l g ⟨c1, c2, c3, c4, c5, c6⟩ wr)) (fun _ _ _ _ => 0)
   case atStart => exact ⟨rfl, rfl, rfl, J1⟩
   case round =>
    obtain ⟨rfl, rfl, rfl, J⟩ := hrel
    have hK : wr.heap[g]? = some (.cells #[.int .i64 c1, .int .i64 c2, .int .i64 c3, .int .i64 c4, .int .i64 c5, .int .i64 c6] 46 (0,0)) := J.out.k
    have k0 := ce (i := 0) hK rfl
    have k1 := ce (i := 1) hK rfl
    have k2 := ce (i := 2) hK rfl
    have k3 := ce (i := 3) hK rfl
    have k4 := ce (i := 4) hK rfl
    have k5 := ce (i := 5) hK rfl
    clear hK
    go_wp2_with fail
    refine (HI.out _ (J.out.alloc _)).mono ?_
    rintro e w4 ⟨rfl, hb4⟩
    have J4 := hidE ((J.out.alloc _).next hb4)
    go_wp2_with fail
    refine bodyPost_ret (v := itvV (none, 0)) (by simp [results, Tryz.results295, go_sem, itvV]) rfl ⟨rfl, J4.out.b⟩
 | some p =>
   have hR := HR.out
   subst hR
   obtain ⟨p1, p2⟩ := p
   have hpb := HF.out p1 p2 rfl
   clear HR HF
   unfold fitV at HI
   dsimp only at HI
   go_enter Tryz.func295, Tryz.ntmps295
   go_wp2_with fail
   refine (HC.out _ J0.out).mono ?_
   rintro e w1 ⟨rfl, hb1⟩
   have J1 := hidE (J0.out.next hb1)
   clear hb1 J0 HC
   go_wp2_with fail
   refine (HST.out _).mono ?_
   rintro e w2 ⟨rfl, rfl⟩
   go_wp2_with fail
   go_loopw [6, 7, 38] (fun x y i wr => ((i = .int .i64 0 ∧ x = .int .i64 (-100000) ∧ y = .int .i64 100000) ∨ (i = .int .i64 1 ∧ x = .int .i64 p1 ∧ y = .int .i64 p2)) ∧ Hid (VC w a l g ⟨c1, c2, c3, c4, c5, c6⟩ wr)) (fun _ _ i _ => 1 - (intOf i).toNat)
   case atStart => exact ⟨.inl ⟨rfl, rfl, rfl⟩, J1⟩
   case round =>
    obtain ⟨⟨rfl, rfl, rfl⟩ | ⟨rfl, rfl, rfl⟩, J⟩ := hrel
    ·have hK : wr.heap[g]? = some (.cells #[.int .i64 c1, .int .i64 c2, .int .i64 c3, .int .i64 c4, .int .i64 c5, .int .i64 c6] 46 (0,0)) := J.out.k
     have k0 := ce (i := 0) hK rfl
     have k1 := ce (i := 1) hK rfl
     have k2 := ce (i := 2) hK rfl
     have k3 := ce (i := 3) hK rfl
     have k4 := ce (i := 4) hK rfl
     have k5 := ce (i := 5) hK rfl
     clear hK
     have m1 : max (-100000) p1 = p1 := by omega
     have m2 : min 100000 p2 = p2 := by omega
     go_wp2_with fail
     refine (HI.out _ (J.out.alloc _)).mono ?_
     rintro e w4 ⟨rfl, hb4⟩
     have J4 := hidE ((J.out.alloc _).next hb4)
     clear hb4
     go_wp2_with fail
     go_roundw
     case rel => exact ⟨.inr ⟨rfl, rfl, rfl⟩, J4⟩
     case measure => simp [intOf]
    ·go_wp2_with fail
     refine bodyPost_ret (v := itvV (some (p1, p2), 0)) (by simp [results, Tryz.results295, go_sem, itvV]) rfl ⟨rfl, J.out.b⟩
theorem vc_alloc {w : World} {a : Option Addr} {l : List Vrn} (h : VrnsAt w a l) (c : Crs) : VC w a l w.heap.size c (w.alloc (.cells c.vals 46)) := ⟨(Below.refl _ _).alloc (Nat.le_refl _) _, h.alloc _, heap_alloc_new _ _⟩
set_option maxRecDepth 10000 in
set_option maxHeartbeats 1000000 in
theorem itvE_any (w : World) (a : Option Addr) (cap : Nat) (l : List Vrn) (c : Crs) (dx : Int) (hl : l.length ≤ 9223372036854775807) (h : VrnsAt w a l) :
 Calls Tryz.prog 271 #[.slice a l.length cap, c.val, .int .i64 dx] w fun r w' => r = .returned (itvV (itvE l c dx)) ∧ Below w.heap.size w w' := by
 obtain ⟨w0, hw0⟩ : ∃ W, W = w.alloc (.cells c.vals 46) := ⟨_, rfl⟩
 have J0 := hidE (show VC w a l w.heap.size c w0 by rw [hw0]; exact vc_alloc h c)
 have HC := hidE (fun W g (hv : VrnsAt W a l) (hg : W.heap[g]? = some (.cells c.vals 46 (0,0))) => commonC_any W a cap l c g dx hl hv hg)
 obtain ⟨r, hr⟩ : ∃ r, itvE l c dx = r := ⟨_, rfl⟩
 rw [hr] at HC ⊢
 obtain ⟨c1, c2, c3, c4, c5, c6⟩ := c
 unfold Crs.val Crs.vals at *
 dsimp only at *
 have hK : w0.heap[w.heap.size]? = some (.cells #[.int .i64 c1, .int .i64 c2, .int .i64 c3, .int .i64 c4, .int .i64 c5, .int .i64 c6] 46 (0,0)) := J0.out.k
 have k0 := ce (i := 0) hK rfl
 have k1 := ce (i := 1) hK rfl
 have k2 := ce (i := 2) hK rfl
 have k3 := ce (i := 3) hK rfl
 have k4 := ce (i := 4) hK rfl
 have k5 := ce (i := 5) hK rfl
 have hq := J0.out.v
 clear hK h hr
 go_enter Tryz.func271, Tryz.ntmps271
 go_upto_region 1 with fail
 rw [← hw0]
 clear hw0
 go_wp2_with (refine Great.wpList_buildSliceTo rfl 306 46 1 _ rfl _ rfl _ rfl Tryz.underlying306 #[.int .i64 c1, .int .i64 c2, .int .i64 c3, .int .i64 c4, .int .i64 c5, .int .i64 c6] (by kernel_rfl) ?_)
 have JA := J0.out.alloc (.cells #[.int .i64 c1, .int .i64 c2, .int .i64 c3, .int .i64 c4, .int .i64 c5, .int .i64 c6] 46)
 refine (HC.out _ _ JA.v (heap_alloc_new _ _)).mono ?_
 rintro e w2 ⟨rfl, hb2⟩
 have B2 := hidE (JA.next hb2).b
 clear hb2 JA hq
 obtain ⟨r1, r2⟩ := r
 cases r1 with
 | none =>
   unfold itvV
   go_wp2_with fail
   refine bodyPost_ret (v := itvV (none, r2)) (by simp [results, Tryz.results271, go_sem, itvV]) rfl ⟨rfl, B2.out⟩
 | some p =>
   unfold itvV
   go_wp2_with fail
   refine bodyPost_ret (v := itvV (some p, r2)) (by simp [results, Tryz.results271, go_sem, itvV]) rfl ⟨rfl, B2.out⟩
theorem rowc {W : World} {b : Nat} {cs : Array Value} {t : TypeId} (h : W.heap[b]? = some (.cells cs t (0,0))) : ∀ i, W.cell? ⟨b, i, none⟩ = cs[i]? := fun _i => cell_of_row _ _ _ _ _ _ h
def Cll.vals (c : Cll) : Array Value := #[.int .u8 c.kind, .int .i64 c.limit, .int .i64 c.other, .int .i64 c.fr, .int .i64 c.tt, .int .i64 c.sz, .int .i64 c.er, .int .i64 c.crs.bearing, .int .i64 c.crs.needle, .int .i64 c.crs.links, .int .i64 c.crs.year, .int .i64 c.crs.wear, .int .i64 c.crs.slack]
def Cll.val (c : Cll) : Value := .agg c.vals
def dcV (x : FV) (F : Fld) (c : Cll) : Array Value := #[.slice x.aS F.sts.length x.cS, .slice x.aL F.lms.length x.cL, .slice x.aP F.prs.length x.cP, .slice x.aV F.vrs.length x.cV, .int .u8 c.kind, .int .i64 c.limit, .int .i64 c.other, .int .i64 c.fr, .int .i64 c.tt, .int .i64 c.sz, .int .i64 c.er, .int .i64 c.crs.bearing, .int .i64 c.crs.needle, .int .i64 c.crs.links, .int .i64 c.crs.year, .int .i64 c.crs.wear, .int .i64 c.crs.slack]
def dcO (x : FV) (F : Fld) (c : Cll) : Obj := .cells (dcV x F c) 245 (0,0)
theorem limits1_any (w : World) (v : Int) (b : Nat) (x : FV) (F : Fld) (c : Cll) (hl : F.lms.length ≤ 4000) (h : w.heap[b]? = some (dcO x F c)) :
 Calls Tryz.prog 338 #[.int .i64 v, .pointer (some ⟨b, 0, none⟩)] w fun e w' => e = .returned (.bool (!limB F v)) ∧ w = w' := by
 have kk := rowc h
 have HI := hidE (fun W => inD_any v 0 ((F.lms.length : Int) - 1) W)
 unfold limB
 obtain ⟨q, hq⟩ : ∃ q, inR v 0 ((F.lms.length : Int) - 1) = q := ⟨_, rfl⟩
 rw [hq] at HI ⊢
 unfold dcV at kk
 clear h hq
 go_enter Tryz.func338, Tryz.ntmps338
 go_wp2_with fail
 refine (HI.out _).mono ?_
 rintro e w1 ⟨rfl, rfl⟩
 go_wp2_with fail
 go_ret
 exact ⟨rfl, rfl⟩
theorem stations1_any (w : World) (v : Int) (b : Nat) (x : FV) (F : Fld) (c : Cll) (hl : F.sts.length ≤ 4000) (h : w.heap[b]? = some (dcO x F c)) :
 Calls Tryz.prog 339 #[.int .i64 v, .pointer (some ⟨b, 0, none⟩)] w fun e w' => e = .returned (.bool (!staB F v)) ∧ w = w' := by
 have kk := rowc h
 have HI := hidE (fun W => inD_any v 0 ((F.sts.length : Int) - 1) W)
 unfold staB
 obtain ⟨q, hq⟩ : ∃ q, inR v 0 ((F.sts.length : Int) - 1) = q := ⟨_, rfl⟩
 rw [hq] at HI ⊢
 unfold dcV at kk
 clear h hq
 go_enter Tryz.func339, Tryz.ntmps339
 go_wp2_with fail
 refine (HI.out _).mono ?_
 rintro e w1 ⟨rfl, rfl⟩
 go_wp2_with fail
 go_ret
 exact ⟨rfl, rfl⟩
theorem limitsC_any (w : World) (x : FV) (F : Fld) (c : Cll) (a : Option Addr) (cap : Nat) (ls : List Int) (hn : ls.length ≤ 4000) (hl : F.lms.length ≤ 4000) (h : IntsAt w a ls) :
 Calls Tryz.prog 314 #[.agg (dcV x F c), .slice a ls.length cap] w fun e w' => e = .returned (.bool (ls.all (limB F))) ∧ Below w.heap.size w w' := by
 obtain ⟨w0, hw0⟩ : ∃ W, W = w.alloc (.cells (dcV x F c) 245) := ⟨_, rfl⟩
 have hb0 := hidE (show Below w.heap.size w w0 by rw [hw0]; exact (Below.refl _ _).alloc (Nat.le_refl _) _)
 have hx0 := (show w0.heap[w.heap.size]? = some (dcO x F c) by rw [hw0]; exact heap_alloc_new _ _)
 have HC := hidE (containsFuncInts_any w0 a cap ls 338 #[.pointer (some ⟨w.heap.size, 0, none⟩)] (fun v => !limB F v) (by omega) (by rw [hw0]; exact h.alloc _)
  (fun k hk W hb => (limits1_any W ls[k] w.heap.size x F c hl (blk_below hb (lt_of_block hx0) hx0)).mono fun _ _ ⟨he, hw⟩ => ⟨he, hw ▸ Below.refl _ _⟩) (enters_of Tryz.func338 (by kernel_rfl) rfl))
 have hq : (!ls.any fun v => !limB F v) = ls.all (limB F) := by rw [List.all_eq_not_any_not]
 rw [← hq]
 obtain ⟨q, hq2⟩ : ∃ q, (ls.any fun v => !limB F v) = q := ⟨_, rfl⟩
 rw [hq2] at HC ⊢
 unfold dcV at *
 clear hq hq2 hx0
 go_enter Tryz.func314, Tryz.ntmps314
 go_upto_region 1 with fail
 rw [← hw0]
 clear hw0
 go_wp2_with fail
 refine HC.out.mono ?_
 rintro e w1 ⟨rfl, hb1⟩
 go_wp2_with fail
 go_ret
 exact ⟨rfl, hb0.out.trans (hb1.mono hb0.out.size)⟩
theorem stationsC_any (w : World) (x : FV) (F : Fld) (c : Cll) (a : Option Addr) (cap : Nat) (ls : List Int) (hn : ls.length ≤ 4000) (hl : F.sts.length ≤ 4000) (h : IntsAt w a ls) :
 Calls Tryz.prog 315 #[.agg (dcV x F c), .slice a ls.length cap] w fun e w' => e = .returned (.bool (ls.all (staB F))) ∧ Below w.heap.size w w' := by
 obtain ⟨w0, hw0⟩ : ∃ W, W = w.alloc (.cells (dcV x F c) 245) := ⟨_, rfl⟩
 have hb0 := hidE (show Below w.heap.size w w0 by rw [hw0]; exact (Below.refl _ _).alloc (Nat.le_refl _) _)
 have hx0 := (show w0.heap[w.heap.size]? = some (dcO x F c) by rw [hw0]; exact heap_alloc_new _ _)
 have HC := hidE (containsFuncInts_any w0 a cap ls 339 #[.pointer (some ⟨w.heap.size, 0, none⟩)] (fun v => !staB F v) (by omega) (by rw [hw0]; exact h.alloc _)
  (fun k hk W hb => (stations1_any W ls[k] w.heap.size x F c hl (blk_below hb (lt_of_block hx0) hx0)).mono fun _ _ ⟨he, hw⟩ => ⟨he, hw ▸ Below.refl _ _⟩) (enters_of Tryz.func339 (by kernel_rfl) rfl))
 have hq : (!ls.any fun v => !staB F v) = ls.all (staB F) := by rw [List.all_eq_not_any_not]
 rw [← hq]
 obtain ⟨q, hq2⟩ : ∃ q, (ls.any fun v => !staB F v) = q := ⟨_, rfl⟩
 rw [hq2] at HC ⊢
 unfold dcV at *
 clear hq hq2 hx0
 go_enter Tryz.func315, Tryz.ntmps315
 go_upto_region 1 with fail
 rw [← hw0]
 clear hw0
 go_wp2_with fail
 refine HC.out.mono ?_
 rintro e w1 ⟨rfl, hb1⟩
 go_wp2_with fail
 go_ret
 exact ⟨rfl, hb0.out.trans (hb1.mono hb0.out.size)⟩
theorem sized_any (w : World) (x : FV) (F : Fld) (c : Cll) (lo : Int) :
 Calls Tryz.prog 316 #[.agg (dcV x F c), .int .i64 lo] w fun e w' => e = .returned (.bool (sizedB c lo)) ∧ Below w.heap.size w w' := by
 have H1 := hidE (fun W => inD_any c.sz lo 100000 W)
 have H2 := hidE (fun W => inD_any c.er 0 100000 W)
 unfold sizedB
 obtain ⟨p, hp⟩ : ∃ p, inR c.sz lo 100000 = p := ⟨_, rfl⟩
 obtain ⟨q, hq⟩ : ∃ q, inR c.er 0 100000 = q := ⟨_, rfl⟩
 rw [hp] at H1 ⊢
 rw [hq] at H2 ⊢
 unfold dcV
 clear hp hq
 cases p
 rotate_left
 all_goals
  go_enter Tryz.func316, Tryz.ntmps316
  go_wp2_with (go_at_call 137; (first | with_reducible refine (H1.out _).mono ?_ | with_reducible refine (H2.out _).mono ?_); rintro e w1 ⟨rfl, rfl⟩)
  go_ret
  exact ⟨by simp, by go_grown⟩
def dV (N : Nat) (bs : List Bd) (a : Nat) : List Int := (List.range N).map fun b => nV (distN N bs a b)
def dB (N : Nat) (bs : List Bd) (a : Nat) : List Bool := (List.range N).map fun b => nB (distN N bs a b)
def rowsB (N : Nat) (bs cs : List Bd) (a : Nat) : Bool := decide (dV N bs a = dV N cs a) && decide (dB N bs a = dB N cs a)
def alikeP (N : Nat) (bs cs : List Bd) : Bool := (List.range N).all fun a => rowsB N bs cs a
theorem distances_ask {N : Nat} {bs : List Bd} {a : Nat} (h : askedE N bs [(a : Int)] = 0) : distancesP N bs a = (dV N bs a, dB N bs a, 0) := by
 unfold distancesP
 rw [if_pos h]
 rfl
theorem dV_len (N : Nat) (bs : List Bd) (a : Nat) : (dV N bs a).length = N := by simp [dV]
theorem dB_len (N : Nat) (bs : List Bd) (a : Nat) : (dB N bs a).length = N := by simp [dB]
set_option maxRecDepth 10000 in
set_option maxHeartbeats 4000000 in
theorem alike_any (w : World) (N : Nat) (hN : N ≤ 128) (o : Option Addr) (c : Nat) (bs : List Bd) (o2 : Option Addr) (c2 : Nat) (cs : List Bd) (hl : bs.length ≤ 9223372036854775807) (hl2 : cs.length ≤ 9223372036854775807) (h : BoundsAt w o bs) (h2 : BoundsAt w o2 cs)
 (q1 : ∀ a : Nat, a < N → askedE N bs [(a : Int)] = 0) (q2 : ∀ a : Nat, a < N → askedE N cs [(a : Int)] = 0) :
 Calls Tryz.prog 97 #[.agg #[.int .i64 N, .slice o bs.length c], .agg #[.int .i64 N, .slice o2 cs.length c2]] w fun e w' => e = .returned (.bool (alikeP N bs cs)) ∧ Below w.heap.size w w' := by
 obtain ⟨w0, hw0⟩ : ∃ W, W = (w.alloc (.cells #[.int .i64 N, .slice o bs.length c] 61)).alloc (.cells #[.int .i64 N, .slice o2 cs.length c2] 61) := ⟨_, rfl⟩
 have B0 := hidE (show Below w.heap.size w w0 by rw [hw0]; exact ((Below.refl _ _).alloc (Nat.le_refl _) _).alloc (by simp) _)
 have X0 := hidE (show Kb [(w.heap.size + 1, .cells #[.int .i64 N, .slice o2 cs.length c2] 61), (w.heap.size, .cells #[.int .i64 N, .slice o bs.length c] 61)] w0 by
  rw [hw0]
  have := Kb.alloc (o := .cells #[.int .i64 N, .slice o2 cs.length c2] 61) (Kb.alloc (W := w) (o := .cells #[.int .i64 N, .slice o bs.length c] 61) (L := []) trivial)
  simpa using this)
 have hok : i64ok (N : Int) := by unfold i64ok; omega
 have HD1 := hidE (fun W (a : Nat) (hb : Below w0.heap.size w0 W) (ha : a < N) => (by
  have := distances0_any W N o c bs a hok hl ((h.below B0.out (Nat.le_refl _)).below hb (Nat.le_refl _))
  rw [distances_ask (q1 a ha)] at this
  exact this))
 have HD2 := hidE (fun W (a : Nat) (hb : Below w0.heap.size w0 W) (ha : a < N) => (by
  have := distances0_any W N o2 c2 cs a hok hl2 ((h2.below B0.out (Nat.le_refl _)).below hb (Nat.le_refl _))
  rw [distances_ask (q2 a ha)] at this
  exact this))
 obtain ⟨LB, hLB⟩ : ∃ n, bs.length = n := ⟨_, rfl⟩
 obtain ⟨LC, hLC⟩ : ∃ n, cs.length = n := ⟨_, rfl⟩
 rw [hLB] at HD1
 rw [hLC] at HD2
 rw [hLB, hLC] at X0 hw0 ⊢
 have HN := hidE hN
 clear h h2 hl hl2 q1 q2 hok hLB hLC hN
 have k1 := rowc X0.out.1
 have k2 := rowc X0.out.2.1
 go_enter Tryz.func97, Tryz.ntmps97
 go_upto_region 1 with fail
 rw [← hw0]
 clear hw0
 go_wp2_with fail
 clear k1 k2
 go_loopw [14] (fun i wr => ∃ k : Nat, k ≤ N ∧ i = .int .i64 k ∧ Hid (∀ a, a < k → rowsB N bs cs a = true) ∧ Hid (Below w0.heap.size w0 wr)) (fun i _ => N - (intOf i).toNat)
 case atStart => exact ⟨0, Nat.zero_le _, rfl, hidE (fun a ha => absurd ha (Nat.not_lt_zero _)), hidE (Below.refl _ _)⟩
 case round =>
  obtain ⟨k, hk, rfl, hall, hb⟩ := hrel
  have hN2 := HN.out
  by_cases hlt : k < N
  ·have k1 := rowc (X0.out.next hb.out).1
   have k2 := rowc (X0.out.next hb.out).2.1
   have HC1 := hidE (HD1.out wr k hb.out hlt)
   have HC2 := hidE (fun W (z : Below w0.heap.size w0 W) => HD2.out W k z hlt)
   obtain ⟨V1, hV1⟩ : ∃ v, dV N bs k = v := ⟨_, rfl⟩
   obtain ⟨V2, hV2⟩ : ∃ v, dV N cs k = v := ⟨_, rfl⟩
   obtain ⟨U1, hU1⟩ : ∃ v, dB N bs k = v := ⟨_, rfl⟩
   obtain ⟨U2, hU2⟩ : ∃ v, dB N cs k = v := ⟨_, rfl⟩
   have HROW := hidE (show rowsB N bs cs k = (decide (V1 = V2) && decide (U1 = U2)) by unfold rowsB; rw [hV1, hV2, hU1, hU2])
   have HLL := hidE (show V1.length ≤ 9223372036854775807 ∧ V2.length ≤ 9223372036854775807 ∧ U1.length ≤ 9223372036854775807 ∧ U2.length ≤ 9223372036854775807 by
    have := HN.out
    have := dV_len N bs k; have := dV_len N cs k; have := dB_len N bs k; have := dB_len N cs k
    rw [hV1] at *; rw [hV2] at *; rw [hU1] at *; rw [hU2] at *
    omega)
   rw [hV1, hU1] at HC1
   rw [hV2, hU2] at HC2
   clear hV1 hV2 hU1 hU2
   go_wp2_with fail
   refine HC1.out.mono ?_
   rintro e w1 ⟨⟨a1, c1, a2, c2, rfl, h1, h2⟩, hb1⟩
   have H1 := hidE h1
   have H2 := hidE h2
   have B1 := hidE (hb.out.trans (hb1.mono hb.out.size))
   have k3 := rowc (X0.out.next B1.out).1
   clear h1 h2 hb1 k1 k2 HC1
   go_wp2_with fail
   refine (HC2.out w1 B1.out).mono ?_
   rintro e w2 ⟨⟨a3, c3, a4, c4, rfl, h3, h4⟩, hb2⟩
   have HV := hidE (equalI_any w2 a1 c1 V1 a3 c3 V2 (H1.out.below hb2 (Nat.le_refl _)) h3 HLL.out.1 HLL.out.2.1)
   have B2 := hidE (B1.out.trans (hb2.mono B1.out.size))
   have HU := hidE (fun W (z : Below w2.heap.size w2 W) => equalB_any W a2 c2 U1 a4 c4 U2 ((H2.out.below hb2 (Nat.le_refl _)).below z (Nat.le_refl _)) (h4.below z (Nat.le_refl _)) HLL.out.2.2.1 HLL.out.2.2.2)
   clear h3 h4 hb2 k3 HC2 H1 H2
   obtain ⟨b1, hb1⟩ : ∃ v, decide (V1 = V2) = v := ⟨_, rfl⟩
   obtain ⟨b2, hb2⟩ : ∃ v, decide (U1 = U2) = v := ⟨_, rfl⟩
   rw [hb1] at HV HROW
   rw [hb2] at HU HROW
   obtain ⟨n1, hn1⟩ : ∃ n, V1.length = n := ⟨_, rfl⟩
   obtain ⟨n2, hn2⟩ : ∃ n, V2.length = n := ⟨_, rfl⟩
   obtain ⟨n3, hn3⟩ : ∃ n, U1.length = n := ⟨_, rfl⟩
   obtain ⟨n4, hn4⟩ : ∃ n, U2.length = n := ⟨_, rfl⟩
   rw [hn1, hn2] at HV
   rw [hn3, hn4] at HU
   simp only [hn1, hn2, hn3, hn4]
   clear hb1 hb2 hn1 hn2 hn3 hn4
   cases b1
   ·go_wp2_with fail
    refine HV.out.mono ?_
    rintro e w3 ⟨rfl, hb3⟩
    have B3 := hidE (B2.out.trans (hb3.mono B2.out.size))
    clear hb3
    go_wp2_with fail
    go_ret
    refine ⟨?_, B0.out.trans (B3.out.mono B0.out.size)⟩
    have : alikeP N bs cs = false := by
     unfold alikeP
     rw [List.all_eq_false]
     exact ⟨k, List.mem_range.2 hlt, by rw [HROW.out]; simp⟩
    rw [this]; rfl
   ·go_wp2_with fail
    refine HV.out.mono ?_
    rintro e w3 ⟨rfl, hb3⟩
    have B3 := hidE (B2.out.trans (hb3.mono B2.out.size))
    have HU3 := hidE (HU.out w3 hb3)
    clear hb3
    go_wp2_with fail
    refine HU3.out.mono ?_
    rintro e w4 ⟨rfl, hb4⟩
    have B4 := hidE (B3.out.trans (hb4.mono B3.out.size))
    clear hb4
    cases b2
    ·go_wp2_with fail
     go_ret
     refine ⟨?_, B0.out.trans (B4.out.mono B0.out.size)⟩
     have : alikeP N bs cs = false := by
      unfold alikeP
      rw [List.all_eq_false]
      exact ⟨k, List.mem_range.2 hlt, by rw [HROW.out]; simp⟩
     rw [this]; rfl
    ·go_wp2_with fail
     go_roundw
     case rel => exact ⟨k + 1, by omega, by go_num, hidE (fun a ha => by
      by_cases q : a < k
      ·exact hall.out a q
      ·rw [show a = k by omega, HROW.out]; rfl), B4⟩
     case measure => simp [intOf]; omega
  ·go_wp2_with fail
   go_ret
   refine ⟨?_, B0.out.trans (hb.out.mono B0.out.size)⟩
   have : alikeP N bs cs = true := by
    unfold alikeP
    rw [List.all_eq_true]
    exact fun a ha => hall.out a (by have := List.mem_range.1 ha; omega)
   rw [this]; rfl
theorem ht48 : Tryz.prog.underlying 48 = some (.struct (Tryz.prog.fieldsOf 48)) := by kernel_rfl
theorem ht46 : Tryz.prog.underlying 46 = some (.struct (Tryz.prog.fieldsOf 46)) := by kernel_rfl
theorem ht44 : Tryz.prog.underlying 44 = some (.struct (Tryz.prog.fieldsOf 44)) := by kernel_rfl
theorem sh48 : Tryz.prog.stoodInHeld 48 = false := by kernel_rfl
theorem sh46 : Tryz.prog.stoodInHeld 46 = false := by kernel_rfl
theorem sh44 : Tryz.prog.stoodInHeld 44 = false := by kernel_rfl
theorem guard48 (op : BinOp) (x y : Operand) (xs ys : Array Value) (w : World) : (eqGuard op 48 x y (.agg xs) (.agg ys)).run Tryz.prog w = .ok () w := run_eqGuard_agg w op 48 x y xs ys (by kernel_rfl)
theorem eql44 (d : Nat) (a b c e : Int) (w : World) : (Op.equalIn (d + 2) 44 (.agg #[.int .i64 a, .int .i64 b]) (.agg #[.int .i64 c, .int .i64 e])).run Tryz.prog w = .ok (decide (a = c) && decide (b = e)) w := by
 rw [run_equalIn_agg w (d + 1) 44 _ _ ht44 sh44]
 simp [Program.fieldsOf, Tryz.underlying44, Op.eqFields, go_sem, part]
 by_cases h1 : a = c <;> by_cases h2 : b = e <;> simp [h1, h2]
theorem eql46 (d : Nat) (a b : Crs) (w : World) : (Op.equalIn (d + 3) 46 (.agg a.vals) (.agg b.vals)).run Tryz.prog w = .ok (decide (a = b)) w := by
 rw [run_equalIn_agg w (d + 2) 46 _ _ ht46 sh46]
 obtain ⟨a1, a2, a3, a4, a5, a6⟩ := a
 obtain ⟨b1, b2, b3, b4, b5, b6⟩ := b
 have h44 := eql44 (d := d) a5 a6 b5 b6
 simp [Program.fieldsOf, Tryz.underlying46, Op.eqFields, go_sem, part, Crs.vals, h44]
 by_cases h1 : a1 = b1 <;> by_cases h2 : a2 = b2 <;> by_cases h3 : a3 = b3 <;> by_cases h4 : a4 = b4 <;> by_cases h5 : a5 = b5 <;> by_cases h6 : a6 = b6 <;> simp [h1, h2, h3, h4, h5, h6]
theorem eql48 (a b : Cll) (w : World) : (binOp .eql 48 (.agg a.vals) (.agg b.vals)).run Tryz.prog w = .ok (.bool (decide (a = b))) w := by
 rw [run_eql_struct, run_equalIn_agg w 9999 48 _ _ ht48 sh48]
 obtain ⟨a1, a2, a3, a4, a5, a6, a7, a8⟩ := a
 obtain ⟨b1, b2, b3, b4, b5, b6, b7, b8⟩ := b
 have h46 := eql46 (d := 9996) a8 b8
 unfold Crs.vals at h46
 simp [Program.fieldsOf, Tryz.underlying48, Op.eqFields, go_sem, part, Cll.vals, h46]
 (repeat' split) <;> simp_all
theorem wpList_load_rowG {P : Program} {ops : Array Oper} {rest : List Oper} {o : Oper} {a : Act} {w : World} {Q : Exit → Act → World → Prop} (hw : Region.wanted o (yielded ops a.tmps) = true) (ty : TypeId) (x : Operand) (ho : o.op = .load ty x) (dst : Option Tmp) (hdst : o.dst = dst)
 (g : Nat) (hx : a.eval x = .pointer (some ⟨g, 0, none⟩)) (t : TypeId) (cs : Array Value) (fr : Nat × Nat) (d : TypeDesc) (hg : w.heap[g]? = some (.cells cs t fr))
 (hu : P.underlying ty = some d) (hd : (match d with | .struct _ | .array _ _ => true | _ => false) = true) (hi : (P.info? ty).map (·.size) = some cs.size)
 (h : wpList P ops Q rest (a.put dst (.agg cs)) w) : wpList P ops Q (o :: rest) a w :=
 wpList_step fun K hK => by
  subst hdst
  rw [if_pos hw]
  exact wp_load_row ty x ho g hx t cs fr d hg hu hd hi (hK _ _ h)
structure CJ (w : World) (x : FV) (F : Fld) (c : Cll) (W : World) : Prop where
 b : Below w.heap.size w W
 k : W.heap[w.heap.size]? = some (dcO x F c)
theorem CJ.next {w W W' : World} {x : FV} {F : Fld} {c : Cll} (h : CJ w x F c W) (hb : Below W.heap.size W W') : CJ w x F c W' := ⟨h.b.trans (hb.mono h.b.size), blk_below hb (lt_of_block h.k) h.k⟩
theorem CJ.start (w : World) (x : FV) (F : Fld) (c : Cll) : CJ w x F c (w.alloc (.cells (dcV x F c) 245)) := ⟨(Below.refl _ _).alloc (Nat.le_refl _) _, heap_alloc_new _ _⟩
theorem ints_row {W : World} {g : Nat} {l : List Int} (h : W.heap[g]? = some (.cells (l.map (Value.int .i64)).toArray 3 (0,0))) : IntsAt W (some ⟨g, 0, none⟩) l :=
 .inr ⟨g, 0, rfl, lt_of_block h, fun i hi => by rw [cell_of_row _ _ _ _ _ _ h]; simp [hi]⟩
theorem ints_single (W : World) (a : Int) : IntsAt (W.alloc (.cells #[.int .i64 a] 3)) (some ⟨W.heap.size, 0, none⟩) [a] := ints_row (heap_alloc_new _ _)
theorem ints_pair (W : World) (a b : Int) : IntsAt (W.alloc (.cells #[.int .i64 a, .int .i64 b] 3)) (some ⟨W.heap.size, 0, none⟩) [a, b] := ints_row (heap_alloc_new _ _)
set_option maxHeartbeats 4000000 in
theorem stone_any (w : World) (x : FV) (F : Fld) (c : Cll) (hl : F.lms.length ≤ 4000) (hs : F.sts.length ≤ 4000) :
 Calls Tryz.prog 285 #[.agg (dcV x F c)] w fun e w' => e = .returned (.bool (stoneB F c)) ∧ Below w.heap.size w w' := by
 obtain ⟨w0, hw0⟩ : ∃ W, W = w.alloc (.cells (dcV x F c) 245) := ⟨_, rfl⟩
 have J0 := hidE (show CJ w x F c w0 by rw [hw0]; exact CJ.start _ _ _ _)
 obtain ⟨R, hR⟩ : ∃ R, stoneB F c = R := ⟨_, rfl⟩
 rw [hR]
 obtain ⟨kind, limit, other, fr, tt, sz, er, c1, c2, c3, c4, c5, c6⟩ := c
 obtain ⟨w1, hw1⟩ : ∃ W, W = w0.alloc (.cells #[.int .u8 kind, .int .i64 limit, .int .i64 0, .int .i64 fr, .int .i64 0, .int .i64 sz, .int .i64 er, .int .i64 0, .int .i64 0, .int .i64 0, .int .i64 0, .int .i64 0, .int .i64 0] 48) := ⟨_, rfl⟩
 have J1 := hidE (show CJ w x F ⟨kind, limit, other, fr, tt, sz, er, ⟨c1, c2, c3, c4, c5, c6⟩⟩ w1 by rw [hw1]; exact J0.out.next ((Below.refl _ _).alloc (Nat.le_refl _) _))
 have hx1 := (show Kb [(w0.heap.size, .cells #[.int .u8 kind, .int .i64 limit, .int .i64 0, .int .i64 fr, .int .i64 0, .int .i64 sz, .int .i64 er, .int .i64 0, .int .i64 0, .int .i64 0, .int .i64 0, .int .i64 0, .int .i64 0] 48)] w1 by rw [hw1]; exact Kb.alloc trivial)
 have kk := rowc J0.out.k
 have k1 := rowc J1.out.k
 have k2 := rowc hx1.1
 unfold dcV at kk k1
 dsimp only at *
 clear hx1
 have XE := fun (W : World) => eql48 (⟨kind, limit, other, fr, tt, sz, er, ⟨c1, c2, c3, c4, c5, c6⟩⟩ : Cll) (⟨kind, limit, 0, fr, 0, sz, er, ⟨0, 0, 0, 0, 0, 0⟩⟩ : Cll) W
 have XG := fun (op : BinOp) (x y : Operand) (xs ys : Array Value) (W : World) => guard48 op x y xs ys W
 have hM : R = (decide ((⟨kind, limit, other, fr, tt, sz, er, ⟨c1, c2, c3, c4, c5, c6⟩⟩ : Cll) = ⟨kind, limit, 0, fr, 0, sz, er, ⟨0, 0, 0, 0, 0, 0⟩⟩) && [limit].all (limB F) && [fr].all (staB F) && sizedB ⟨kind, limit, other, fr, tt, sz, er, ⟨c1, c2, c3, c4, c5, c6⟩⟩ 0) := by
  rw [← hR]; unfold stoneB; simp [crs0, Bool.and_assoc]
 have H0 := hidE (fun W => limitsC_any (W.alloc (.cells #[.int .i64 limit] 3)) x F ⟨kind, limit, other, fr, tt, sz, er, ⟨c1, c2, c3, c4, c5, c6⟩⟩ (some ⟨W.heap.size, 0, none⟩) 1 [limit] (by simp) hl (ints_single W limit))
 have H1 := hidE (fun W => stationsC_any (W.alloc (.cells #[.int .i64 fr] 3)) x F ⟨kind, limit, other, fr, tt, sz, er, ⟨c1, c2, c3, c4, c5, c6⟩⟩ (some ⟨W.heap.size, 0, none⟩) 1 [fr] (by simp) hs (ints_single W fr))
 have H2 := hidE (fun W => sized_any W x F ⟨kind, limit, other, fr, tt, sz, er, ⟨c1, c2, c3, c4, c5, c6⟩⟩ 0)
 obtain ⟨p0, hp0⟩ : ∃ p, [limit].all (limB F) = p := ⟨_, rfl⟩
 rw [hp0] at hM H0
 clear hp0
 obtain ⟨p1, hp1⟩ : ∃ p, [fr].all (staB F) = p := ⟨_, rfl⟩
 rw [hp1] at hM H1
 clear hp1
 obtain ⟨p2, hp2⟩ : ∃ p, sizedB ⟨kind, limit, other, fr, tt, sz, er, ⟨c1, c2, c3, c4, c5, c6⟩⟩ 0 = p := ⟨_, rfl⟩
 rw [hp2] at hM H2
 clear hp2
 obtain ⟨q, hq⟩ : ∃ q, decide ((⟨kind, limit, other, fr, tt, sz, er, ⟨c1, c2, c3, c4, c5, c6⟩⟩ : Cll) = ⟨kind, limit, 0, fr, 0, sz, er, ⟨0, 0, 0, 0, 0, 0⟩⟩) = q := ⟨_, rfl⟩
 rw [hq] at hM XE
 clear hq
 unfold Cll.vals at XE
 dsimp only at XE
 have HM := hidE hM
 clear hM hR
 try unfold Crs.val Crs.vals at *
 try dsimp only at *
 go_enter Tryz.func285, Tryz.ntmps285
 go_upto_region 1 with fail
 rw [← hw0]
 clear hw0
 go_upto_region 2 with fail
 rw [← hw1]
 clear hw1 kk J0
 obtain ⟨u0, rfl⟩ : ∃ z : World, z = w1 := ⟨w1, rfl⟩
 have Q0 := J1
 clear J1
 cases q with
 | false =>
   obtain rfl : R = false := by rw [HM.out]; simp
   go_wp2_with fail
   go_ret
   exact ⟨rfl, Q0.out.b⟩
 | true =>
   go_wp2_with (refine wpList_load_rowG rfl 245 _ rfl _ rfl w.heap.size rfl 245 _ (0,0) _ Q0.out.k Tryz.underlying245 rfl (by kernel_rfl) ?_)
   refine (H0.out _).mono ?_
   rintro e u1 ⟨rfl, hb1⟩
   have Q1 := hidE (Q0.out.next (((Below.refl _ _).alloc (Nat.le_refl _) _).trans (hb1.mono (by simp))))
   clear hb1 Q0 k1 k2
   have k1 := rowc Q1.out.k
   unfold dcV at k1
   dsimp only at k1
   cases p0 with
   | false =>
     obtain rfl : R = false := by rw [HM.out]; simp
     go_wp2_with fail
     go_ret
     exact ⟨rfl, Q1.out.b⟩
   | true =>
     go_wp2_with (refine wpList_load_rowG rfl 245 _ rfl _ rfl w.heap.size rfl 245 _ (0,0) _ Q1.out.k Tryz.underlying245 rfl (by kernel_rfl) ?_)
     refine (H1.out _).mono ?_
     rintro e u2 ⟨rfl, hb2⟩
     have Q2 := hidE (Q1.out.next (((Below.refl _ _).alloc (Nat.le_refl _) _).trans (hb2.mono (by simp))))
     clear hb2 Q1 k1
     have k1 := rowc Q2.out.k
     unfold dcV at k1
     dsimp only at k1
     cases p1 with
     | false =>
       obtain rfl : R = false := by rw [HM.out]; simp
       go_wp2_with fail
       go_ret
       exact ⟨rfl, Q2.out.b⟩
     | true =>
       go_wp2_with (refine wpList_load_rowG rfl 245 _ rfl _ rfl w.heap.size rfl 245 _ (0,0) _ Q2.out.k Tryz.underlying245 rfl (by kernel_rfl) ?_)
       refine (H2.out _).mono ?_
       rintro e u3 ⟨rfl, hb3⟩
       have Q3 := hidE (Q2.out.next hb3)
       clear hb3 Q2 k1
       have k1 := rowc Q3.out.k
       unfold dcV at k1
       dsimp only at k1
       cases p2 with
       | false =>
         obtain rfl : R = false := by rw [HM.out]; simp
         go_wp2_with fail
         go_ret
         exact ⟨rfl, Q3.out.b⟩
       | true =>
         obtain rfl : R = true := by rw [HM.out]; simp
         go_wp2_with (refine wpList_load_rowG rfl 245 _ rfl _ rfl w.heap.size rfl 245 _ (0,0) _ Q3.out.k Tryz.underlying245 rfl (by kernel_rfl) ?_)
         go_ret
         exact ⟨rfl, Q3.out.b⟩
set_option maxHeartbeats 4000000 in
theorem width_any (w : World) (x : FV) (F : Fld) (c : Cll) (hl : F.lms.length ≤ 4000) (hs : F.sts.length ≤ 4000) :
 Calls Tryz.prog 287 #[.agg (dcV x F c)] w fun e w' => e = .returned (.bool (widthB F c)) ∧ Below w.heap.size w w' := by
 obtain ⟨w0, hw0⟩ : ∃ W, W = w.alloc (.cells (dcV x F c) 245) := ⟨_, rfl⟩
 have J0 := hidE (show CJ w x F c w0 by rw [hw0]; exact CJ.start _ _ _ _)
 obtain ⟨R, hR⟩ : ∃ R, widthB F c = R := ⟨_, rfl⟩
 rw [hR]
 obtain ⟨kind, limit, other, fr, tt, sz, er, c1, c2, c3, c4, c5, c6⟩ := c
 obtain ⟨w1, hw1⟩ : ∃ W, W = w0.alloc (.cells #[.int .u8 kind, .int .i64 limit, .int .i64 other, .int .i64 fr, .int .i64 0, .int .i64 sz, .int .i64 er, .int .i64 0, .int .i64 0, .int .i64 0, .int .i64 0, .int .i64 0, .int .i64 0] 48) := ⟨_, rfl⟩
 have J1 := hidE (show CJ w x F ⟨kind, limit, other, fr, tt, sz, er, ⟨c1, c2, c3, c4, c5, c6⟩⟩ w1 by rw [hw1]; exact J0.out.next ((Below.refl _ _).alloc (Nat.le_refl _) _))
 have hx1 := (show Kb [(w0.heap.size, .cells #[.int .u8 kind, .int .i64 limit, .int .i64 other, .int .i64 fr, .int .i64 0, .int .i64 sz, .int .i64 er, .int .i64 0, .int .i64 0, .int .i64 0, .int .i64 0, .int .i64 0, .int .i64 0] 48)] w1 by rw [hw1]; exact Kb.alloc trivial)
 have kk := rowc J0.out.k
 have k1 := rowc J1.out.k
 have k2 := rowc hx1.1
 unfold dcV at kk k1
 dsimp only at *
 clear hx1
 have XE := fun (W : World) => eql48 (⟨kind, limit, other, fr, tt, sz, er, ⟨c1, c2, c3, c4, c5, c6⟩⟩ : Cll) (⟨kind, limit, other, fr, 0, sz, er, ⟨0, 0, 0, 0, 0, 0⟩⟩ : Cll) W
 have XG := fun (op : BinOp) (x y : Operand) (xs ys : Array Value) (W : World) => guard48 op x y xs ys W
 have hM : R = (decide ((⟨kind, limit, other, fr, tt, sz, er, ⟨c1, c2, c3, c4, c5, c6⟩⟩ : Cll) = ⟨kind, limit, other, fr, 0, sz, er, ⟨0, 0, 0, 0, 0, 0⟩⟩) && [limit, other].all (limB F) && decide (limit < other) && [fr].all (staB F) && sizedB ⟨kind, limit, other, fr, tt, sz, er, ⟨c1, c2, c3, c4, c5, c6⟩⟩ 0) := by
  rw [← hR]; unfold widthB; simp [crs0, Bool.and_assoc]
 have H0 := hidE (fun W => limitsC_any (W.alloc (.cells #[.int .i64 limit, .int .i64 other] 3)) x F ⟨kind, limit, other, fr, tt, sz, er, ⟨c1, c2, c3, c4, c5, c6⟩⟩ (some ⟨W.heap.size, 0, none⟩) 2 [limit, other] (by simp) hl (ints_pair W limit other))
 have H2 := hidE (fun W => stationsC_any (W.alloc (.cells #[.int .i64 fr] 3)) x F ⟨kind, limit, other, fr, tt, sz, er, ⟨c1, c2, c3, c4, c5, c6⟩⟩ (some ⟨W.heap.size, 0, none⟩) 1 [fr] (by simp) hs (ints_single W fr))
 have H3 := hidE (fun W => sized_any W x F ⟨kind, limit, other, fr, tt, sz, er, ⟨c1, c2, c3, c4, c5, c6⟩⟩ 0)
 obtain ⟨p0, hp0⟩ : ∃ p, [limit, other].all (limB F) = p := ⟨_, rfl⟩
 rw [hp0] at hM H0
 clear hp0
 obtain ⟨p2, hp2⟩ : ∃ p, [fr].all (staB F) = p := ⟨_, rfl⟩
 rw [hp2] at hM H2
 clear hp2
 obtain ⟨p3, hp3⟩ : ∃ p, sizedB ⟨kind, limit, other, fr, tt, sz, er, ⟨c1, c2, c3, c4, c5, c6⟩⟩ 0 = p := ⟨_, rfl⟩
 rw [hp3] at hM H3
 clear hp3
 obtain ⟨q, hq⟩ : ∃ q, decide ((⟨kind, limit, other, fr, tt, sz, er, ⟨c1, c2, c3, c4, c5, c6⟩⟩ : Cll) = ⟨kind, limit, other, fr, 0, sz, er, ⟨0, 0, 0, 0, 0, 0⟩⟩) = q := ⟨_, rfl⟩
 rw [hq] at hM XE
 clear hq
 unfold Cll.vals at XE
 dsimp only at XE
 have HM := hidE hM
 clear hM hR
 try unfold Crs.val Crs.vals at *
 try dsimp only at *
 go_enter Tryz.func287, Tryz.ntmps287
 go_upto_region 1 with fail
 rw [← hw0]
 clear hw0
 go_upto_region 2 with fail
 rw [← hw1]
 clear hw1 kk J0
 obtain ⟨u0, rfl⟩ : ∃ z : World, z = w1 := ⟨w1, rfl⟩
 have Q0 := J1
 clear J1
 cases q with
 | false =>
   obtain rfl : R = false := by rw [HM.out]; simp
   go_wp2_with fail
   go_ret
   exact ⟨rfl, Q0.out.b⟩
 | true =>
   go_wp2_with (refine wpList_load_rowG rfl 245 _ rfl _ rfl w.heap.size rfl 245 _ (0,0) _ Q0.out.k Tryz.underlying245 rfl (by kernel_rfl) ?_)
   refine (H0.out _).mono ?_
   rintro e u1 ⟨rfl, hb1⟩
   have Q1 := hidE (Q0.out.next (((Below.refl _ _).alloc (Nat.le_refl _) _).trans (hb1.mono (by simp))))
   clear hb1 Q0 k1 k2
   have k1 := rowc Q1.out.k
   unfold dcV at k1
   dsimp only at k1
   cases p0 with
   | false =>
     obtain rfl : R = false := by rw [HM.out]; simp
     go_wp2_with fail
     go_ret
     exact ⟨rfl, Q1.out.b⟩
   | true =>
     by_cases q1 : limit < other
     rotate_left
     ·obtain rfl : R = false := by rw [HM.out, decide_eq_false q1]; simp
      go_wp2_with fail
      go_ret
      first | exact ⟨rfl, Q1.out.b⟩ | (refine ⟨?_, Q1.out.b⟩; simp; omega)
     rw [decide_eq_true q1] at HM
     go_wp2_with (refine wpList_load_rowG rfl 245 _ rfl _ rfl w.heap.size rfl 245 _ (0,0) _ Q1.out.k Tryz.underlying245 rfl (by kernel_rfl) ?_)
     refine (H2.out _).mono ?_
     rintro e u2 ⟨rfl, hb2⟩
     have Q2 := hidE (Q1.out.next (((Below.refl _ _).alloc (Nat.le_refl _) _).trans (hb2.mono (by simp))))
     clear hb2 Q1 k1
     have k1 := rowc Q2.out.k
     unfold dcV at k1
     dsimp only at k1
     cases p2 with
     | false =>
       obtain rfl : R = false := by rw [HM.out]; simp
       go_wp2_with fail
       go_ret
       exact ⟨rfl, Q2.out.b⟩
     | true =>
       go_wp2_with (refine wpList_load_rowG rfl 245 _ rfl _ rfl w.heap.size rfl 245 _ (0,0) _ Q2.out.k Tryz.underlying245 rfl (by kernel_rfl) ?_)
       refine (H3.out _).mono ?_
       rintro e u3 ⟨rfl, hb3⟩
       have Q3 := hidE (Q2.out.next hb3)
       clear hb3 Q2 k1
       have k1 := rowc Q3.out.k
       unfold dcV at k1
       dsimp only at k1
       cases p3 with
       | false =>
         obtain rfl : R = false := by rw [HM.out]; simp
         go_wp2_with fail
         go_ret
         exact ⟨rfl, Q3.out.b⟩
       | true =>
         obtain rfl : R = true := by rw [HM.out]; simp
         go_wp2_with (refine wpList_load_rowG rfl 245 _ rfl _ rfl w.heap.size rfl 245 _ (0,0) _ Q3.out.k Tryz.underlying245 rfl (by kernel_rfl) ?_)
         go_ret
         exact ⟨rfl, Q3.out.b⟩
set_option maxHeartbeats 4000000 in
theorem course_any (w : World) (x : FV) (F : Fld) (c : Cll) (hl : F.lms.length ≤ 4000) (hs : F.sts.length ≤ 4000) :
 Calls Tryz.prog 289 #[.agg (dcV x F c)] w fun e w' => e = .returned (.bool (courseB F c)) ∧ Below w.heap.size w w' := by
 obtain ⟨w0, hw0⟩ : ∃ W, W = w.alloc (.cells (dcV x F c) 245) := ⟨_, rfl⟩
 have J0 := hidE (show CJ w x F c w0 by rw [hw0]; exact CJ.start _ _ _ _)
 obtain ⟨R, hR⟩ : ∃ R, courseB F c = R := ⟨_, rfl⟩
 rw [hR]
 obtain ⟨kind, limit, other, fr, tt, sz, er, c1, c2, c3, c4, c5, c6⟩ := c
 obtain ⟨w1, hw1⟩ : ∃ W, W = w0.alloc (.cells #[.int .u8 kind, .int .i64 limit, .int .i64 0, .int .i64 fr, .int .i64 tt, .int .i64 0, .int .i64 0, .int .i64 c1, .int .i64 c2, .int .i64 c3, .int .i64 c4, .int .i64 c5, .int .i64 c6] 48) := ⟨_, rfl⟩
 have J1 := hidE (show CJ w x F ⟨kind, limit, other, fr, tt, sz, er, ⟨c1, c2, c3, c4, c5, c6⟩⟩ w1 by rw [hw1]; exact J0.out.next ((Below.refl _ _).alloc (Nat.le_refl _) _))
 have hx1 := (show Kb [(w0.heap.size, .cells #[.int .u8 kind, .int .i64 limit, .int .i64 0, .int .i64 fr, .int .i64 tt, .int .i64 0, .int .i64 0, .int .i64 c1, .int .i64 c2, .int .i64 c3, .int .i64 c4, .int .i64 c5, .int .i64 c6] 48)] w1 by rw [hw1]; exact Kb.alloc trivial)
 have kk := rowc J0.out.k
 have k1 := rowc J1.out.k
 have k2 := rowc hx1.1
 unfold dcV at kk k1
 dsimp only at *
 clear hx1
 have XE := fun (W : World) => eql48 (⟨kind, limit, other, fr, tt, sz, er, ⟨c1, c2, c3, c4, c5, c6⟩⟩ : Cll) (⟨kind, limit, 0, fr, tt, 0, 0, ⟨c1, c2, c3, c4, c5, c6⟩⟩ : Cll) W
 have XG := fun (op : BinOp) (x y : Operand) (xs ys : Array Value) (W : World) => guard48 op x y xs ys W
 have hM : R = (decide ((⟨kind, limit, other, fr, tt, sz, er, ⟨c1, c2, c3, c4, c5, c6⟩⟩ : Cll) = ⟨kind, limit, 0, fr, tt, 0, 0, ⟨c1, c2, c3, c4, c5, c6⟩⟩) && [limit].all (limB F) && [fr, tt].all (staB F) && decide (fr ≠ tt) && Crs.ok ⟨c1, c2, c3, c4, c5, c6⟩) := by
  rw [← hR]; unfold courseB; simp [Bool.and_assoc]
 have H0 := hidE (fun W => limitsC_any (W.alloc (.cells #[.int .i64 limit] 3)) x F ⟨kind, limit, other, fr, tt, sz, er, ⟨c1, c2, c3, c4, c5, c6⟩⟩ (some ⟨W.heap.size, 0, none⟩) 1 [limit] (by simp) hl (ints_single W limit))
 have H1 := hidE (fun W => stationsC_any (W.alloc (.cells #[.int .i64 fr, .int .i64 tt] 3)) x F ⟨kind, limit, other, fr, tt, sz, er, ⟨c1, c2, c3, c4, c5, c6⟩⟩ (some ⟨W.heap.size, 0, none⟩) 2 [fr, tt] (by simp) hs (ints_pair W fr tt))
 have H3 := hidE (fun W => checkCourse_any ⟨c1, c2, c3, c4, c5, c6⟩ W)
 obtain ⟨p0, hp0⟩ : ∃ p, [limit].all (limB F) = p := ⟨_, rfl⟩
 rw [hp0] at hM H0
 clear hp0
 obtain ⟨p1, hp1⟩ : ∃ p, [fr, tt].all (staB F) = p := ⟨_, rfl⟩
 rw [hp1] at hM H1
 clear hp1
 obtain ⟨p3, hp3⟩ : ∃ p, Crs.ok ⟨c1, c2, c3, c4, c5, c6⟩ = p := ⟨_, rfl⟩
 rw [hp3] at hM H3
 clear hp3
 obtain ⟨q, hq⟩ : ∃ q, decide ((⟨kind, limit, other, fr, tt, sz, er, ⟨c1, c2, c3, c4, c5, c6⟩⟩ : Cll) = ⟨kind, limit, 0, fr, tt, 0, 0, ⟨c1, c2, c3, c4, c5, c6⟩⟩) = q := ⟨_, rfl⟩
 rw [hq] at hM XE
 clear hq
 unfold Cll.vals at XE
 dsimp only at XE
 have HM := hidE hM
 clear hM hR
 try unfold Crs.val Crs.vals at *
 try dsimp only at *
 go_enter Tryz.func289, Tryz.ntmps289
 go_upto_region 1 with fail
 rw [← hw0]
 clear hw0
 go_upto_region 2 with fail
 rw [← hw1]
 clear hw1 kk J0
 obtain ⟨u0, rfl⟩ : ∃ z : World, z = w1 := ⟨w1, rfl⟩
 have Q0 := J1
 clear J1
 cases q with
 | false =>
   obtain rfl : R = false := by rw [HM.out]; simp
   go_wp2_with fail
   go_ret
   exact ⟨rfl, Q0.out.b⟩
 | true =>
   go_wp2_with (refine wpList_load_rowG rfl 245 _ rfl _ rfl w.heap.size rfl 245 _ (0,0) _ Q0.out.k Tryz.underlying245 rfl (by kernel_rfl) ?_)
   refine (H0.out _).mono ?_
   rintro e u1 ⟨rfl, hb1⟩
   have Q1 := hidE (Q0.out.next (((Below.refl _ _).alloc (Nat.le_refl _) _).trans (hb1.mono (by simp))))
   clear hb1 Q0 k1 k2
   have k1 := rowc Q1.out.k
   unfold dcV at k1
   dsimp only at k1
   cases p0 with
   | false =>
     obtain rfl : R = false := by rw [HM.out]; simp
     go_wp2_with fail
     go_ret
     exact ⟨rfl, Q1.out.b⟩
   | true =>
     go_wp2_with (refine wpList_load_rowG rfl 245 _ rfl _ rfl w.heap.size rfl 245 _ (0,0) _ Q1.out.k Tryz.underlying245 rfl (by kernel_rfl) ?_)
     refine (H1.out _).mono ?_
     rintro e u2 ⟨rfl, hb2⟩
     have Q2 := hidE (Q1.out.next (((Below.refl _ _).alloc (Nat.le_refl _) _).trans (hb2.mono (by simp))))
     clear hb2 Q1 k1
     have k1 := rowc Q2.out.k
     unfold dcV at k1
     dsimp only at k1
     cases p1 with
     | false =>
       obtain rfl : R = false := by rw [HM.out]; simp
       go_wp2_with fail
       go_ret
       exact ⟨rfl, Q2.out.b⟩
     | true =>
       by_cases q2 : fr ≠ tt
       rotate_left
       ·obtain rfl : R = false := by rw [HM.out, decide_eq_false q2]; simp
        have qb2 : (fr != tt) = false := by simpa using q2
        go_wp2_with fail
        go_ret
        first | exact ⟨rfl, Q2.out.b⟩ | (refine ⟨?_, Q2.out.b⟩; simp; omega)
       rw [decide_eq_true q2] at HM
       have qb2 : (fr != tt) = true := by simpa using q2
       have QN2 := hidE q2
       clear q2
       go_wp2_with (refine wpList_load_rowG rfl 245 _ rfl _ rfl w.heap.size rfl 245 _ (0,0) _ Q2.out.k Tryz.underlying245 rfl (by kernel_rfl) ?_)
       refine (H3.out _).mono ?_
       rintro e u3 ⟨rfl, hb3⟩
       have Q3 := hidE (Q2.out.next hb3)
       clear hb3 Q2 k1
       have k1 := rowc Q3.out.k
       unfold dcV at k1
       dsimp only at k1
       cases p3 with
       | false =>
         obtain rfl : R = false := by rw [HM.out]; simp
         go_wp2_with fail
         go_ret
         exact ⟨rfl, Q3.out.b⟩
       | true =>
         obtain rfl : R = true := by rw [HM.out]; simp
         go_wp2_with fail
         go_ret
         exact ⟨rfl, Q3.out.b⟩
set_option maxHeartbeats 4000000 in
theorem along_any (w : World) (x : FV) (F : Fld) (c : Cll) (hl : F.lms.length ≤ 4000) (hs : F.sts.length ≤ 4000) :
 Calls Tryz.prog 291 #[.agg (dcV x F c)] w fun e w' => e = .returned (.bool (alongB F c)) ∧ Below w.heap.size w w' := by
 obtain ⟨w0, hw0⟩ : ∃ W, W = w.alloc (.cells (dcV x F c) 245) := ⟨_, rfl⟩
 have J0 := hidE (show CJ w x F c w0 by rw [hw0]; exact CJ.start _ _ _ _)
 obtain ⟨R, hR⟩ : ∃ R, alongB F c = R := ⟨_, rfl⟩
 rw [hR]
 obtain ⟨kind, limit, other, fr, tt, sz, er, c1, c2, c3, c4, c5, c6⟩ := c
 obtain ⟨w1, hw1⟩ : ∃ W, W = w0.alloc (.cells #[.int .u8 kind, .int .i64 limit, .int .i64 other, .int .i64 fr, .int .i64 tt, .int .i64 0, .int .i64 0, .int .i64 0, .int .i64 0, .int .i64 0, .int .i64 0, .int .i64 0, .int .i64 0] 48) := ⟨_, rfl⟩
 have J1 := hidE (show CJ w x F ⟨kind, limit, other, fr, tt, sz, er, ⟨c1, c2, c3, c4, c5, c6⟩⟩ w1 by rw [hw1]; exact J0.out.next ((Below.refl _ _).alloc (Nat.le_refl _) _))
 have hx1 := (show Kb [(w0.heap.size, .cells #[.int .u8 kind, .int .i64 limit, .int .i64 other, .int .i64 fr, .int .i64 tt, .int .i64 0, .int .i64 0, .int .i64 0, .int .i64 0, .int .i64 0, .int .i64 0, .int .i64 0, .int .i64 0] 48)] w1 by rw [hw1]; exact Kb.alloc trivial)
 have kk := rowc J0.out.k
 have k1 := rowc J1.out.k
 have k2 := rowc hx1.1
 unfold dcV at kk k1
 dsimp only at *
 clear hx1
 have XE := fun (W : World) => eql48 (⟨kind, limit, other, fr, tt, sz, er, ⟨c1, c2, c3, c4, c5, c6⟩⟩ : Cll) (⟨kind, limit, other, fr, tt, 0, 0, ⟨0, 0, 0, 0, 0, 0⟩⟩ : Cll) W
 have XG := fun (op : BinOp) (x y : Operand) (xs ys : Array Value) (W : World) => guard48 op x y xs ys W
 have hM : R = (decide ((⟨kind, limit, other, fr, tt, sz, er, ⟨c1, c2, c3, c4, c5, c6⟩⟩ : Cll) = ⟨kind, limit, other, fr, tt, 0, 0, ⟨0, 0, 0, 0, 0, 0⟩⟩) && [limit, other].all (limB F) && decide (limit < other) && [fr, tt].all (staB F) && decide (fr < tt)) := by
  rw [← hR]; unfold alongB; simp [crs0, Bool.and_assoc]
 have H0 := hidE (fun W => limitsC_any (W.alloc (.cells #[.int .i64 limit, .int .i64 other] 3)) x F ⟨kind, limit, other, fr, tt, sz, er, ⟨c1, c2, c3, c4, c5, c6⟩⟩ (some ⟨W.heap.size, 0, none⟩) 2 [limit, other] (by simp) hl (ints_pair W limit other))
 have H2 := hidE (fun W => stationsC_any (W.alloc (.cells #[.int .i64 fr, .int .i64 tt] 3)) x F ⟨kind, limit, other, fr, tt, sz, er, ⟨c1, c2, c3, c4, c5, c6⟩⟩ (some ⟨W.heap.size, 0, none⟩) 2 [fr, tt] (by simp) hs (ints_pair W fr tt))
 obtain ⟨p0, hp0⟩ : ∃ p, [limit, other].all (limB F) = p := ⟨_, rfl⟩
 rw [hp0] at hM H0
 clear hp0
 obtain ⟨p2, hp2⟩ : ∃ p, [fr, tt].all (staB F) = p := ⟨_, rfl⟩
 rw [hp2] at hM H2
 clear hp2
 obtain ⟨q, hq⟩ : ∃ q, decide ((⟨kind, limit, other, fr, tt, sz, er, ⟨c1, c2, c3, c4, c5, c6⟩⟩ : Cll) = ⟨kind, limit, other, fr, tt, 0, 0, ⟨0, 0, 0, 0, 0, 0⟩⟩) = q := ⟨_, rfl⟩
 rw [hq] at hM XE
 clear hq
 unfold Cll.vals at XE
 dsimp only at XE
 have HM := hidE hM
 clear hM hR
 try unfold Crs.val Crs.vals at *
 try dsimp only at *
 go_enter Tryz.func291, Tryz.ntmps291
 go_upto_region 1 with fail
 rw [← hw0]
 clear hw0
 go_upto_region 2 with fail
 rw [← hw1]
 clear hw1 kk J0
 obtain ⟨u0, rfl⟩ : ∃ z : World, z = w1 := ⟨w1, rfl⟩
 have Q0 := J1
 clear J1
 cases q with
 | false =>
   obtain rfl : R = false := by rw [HM.out]; simp
   go_wp2_with fail
   go_ret
   exact ⟨rfl, Q0.out.b⟩
 | true =>
   go_wp2_with (refine wpList_load_rowG rfl 245 _ rfl _ rfl w.heap.size rfl 245 _ (0,0) _ Q0.out.k Tryz.underlying245 rfl (by kernel_rfl) ?_)
   refine (H0.out _).mono ?_
   rintro e u1 ⟨rfl, hb1⟩
   have Q1 := hidE (Q0.out.next (((Below.refl _ _).alloc (Nat.le_refl _) _).trans (hb1.mono (by simp))))
   clear hb1 Q0 k1 k2
   have k1 := rowc Q1.out.k
   unfold dcV at k1
   dsimp only at k1
   cases p0 with
   | false =>
     obtain rfl : R = false := by rw [HM.out]; simp
     go_wp2_with fail
     go_ret
     exact ⟨rfl, Q1.out.b⟩
   | true =>
     by_cases q1 : limit < other
     rotate_left
     ·obtain rfl : R = false := by rw [HM.out, decide_eq_false q1]; simp
      go_wp2_with fail
      go_ret
      first | exact ⟨rfl, Q1.out.b⟩ | (refine ⟨?_, Q1.out.b⟩; simp; omega)
     rw [decide_eq_true q1] at HM
     go_wp2_with (refine wpList_load_rowG rfl 245 _ rfl _ rfl w.heap.size rfl 245 _ (0,0) _ Q1.out.k Tryz.underlying245 rfl (by kernel_rfl) ?_)
     refine (H2.out _).mono ?_
     rintro e u2 ⟨rfl, hb2⟩
     have Q2 := hidE (Q1.out.next (((Below.refl _ _).alloc (Nat.le_refl _) _).trans (hb2.mono (by simp))))
     clear hb2 Q1 k1
     have k1 := rowc Q2.out.k
     unfold dcV at k1
     dsimp only at k1
     cases p2 with
     | false =>
       obtain rfl : R = false := by rw [HM.out]; simp
       go_wp2_with fail
       go_ret
       exact ⟨rfl, Q2.out.b⟩
     | true =>
       by_cases q3 : fr < tt
       rotate_left
       ·obtain rfl : R = false := by rw [HM.out, decide_eq_false q3]; simp
        go_wp2_with fail
        go_ret
        first | exact ⟨rfl, Q2.out.b⟩ | (refine ⟨?_, Q2.out.b⟩; simp; omega)
       rw [decide_eq_true q3] at HM
       obtain rfl : R = true := by rw [HM.out]; simp
       go_wp2_with (refine wpList_load_rowG rfl 245 _ rfl _ rfl w.heap.size rfl 245 _ (0,0) _ Q2.out.k Tryz.underlying245 rfl (by kernel_rfl) ?_)
       go_ret
       first | exact ⟨rfl, Q2.out.b⟩ | (refine ⟨?_, Q2.out.b⟩; simp; omega)
set_option maxHeartbeats 4000000 in
theorem level_any (w : World) (x : FV) (F : Fld) (c : Cll) (hl : F.lms.length ≤ 4000) (hs : F.sts.length ≤ 4000) :
 Calls Tryz.prog 293 #[.agg (dcV x F c)] w fun e w' => e = .returned (.bool (levelB F c)) ∧ Below w.heap.size w w' := by
 obtain ⟨w0, hw0⟩ : ∃ W, W = w.alloc (.cells (dcV x F c) 245) := ⟨_, rfl⟩
 have J0 := hidE (show CJ w x F c w0 by rw [hw0]; exact CJ.start _ _ _ _)
 obtain ⟨R, hR⟩ : ∃ R, levelB F c = R := ⟨_, rfl⟩
 rw [hR]
 obtain ⟨kind, limit, other, fr, tt, sz, er, c1, c2, c3, c4, c5, c6⟩ := c
 obtain ⟨w1, hw1⟩ : ∃ W, W = w0.alloc (.cells #[.int .u8 kind, .int .i64 limit, .int .i64 0, .int .i64 fr, .int .i64 tt, .int .i64 sz, .int .i64 er, .int .i64 0, .int .i64 0, .int .i64 0, .int .i64 0, .int .i64 0, .int .i64 0] 48) := ⟨_, rfl⟩
 have J1 := hidE (show CJ w x F ⟨kind, limit, other, fr, tt, sz, er, ⟨c1, c2, c3, c4, c5, c6⟩⟩ w1 by rw [hw1]; exact J0.out.next ((Below.refl _ _).alloc (Nat.le_refl _) _))
 have hx1 := (show Kb [(w0.heap.size, .cells #[.int .u8 kind, .int .i64 limit, .int .i64 0, .int .i64 fr, .int .i64 tt, .int .i64 sz, .int .i64 er, .int .i64 0, .int .i64 0, .int .i64 0, .int .i64 0, .int .i64 0, .int .i64 0] 48)] w1 by rw [hw1]; exact Kb.alloc trivial)
 have kk := rowc J0.out.k
 have k1 := rowc J1.out.k
 have k2 := rowc hx1.1
 unfold dcV at kk k1
 dsimp only at *
 clear hx1
 have XE := fun (W : World) => eql48 (⟨kind, limit, other, fr, tt, sz, er, ⟨c1, c2, c3, c4, c5, c6⟩⟩ : Cll) (⟨kind, limit, 0, fr, tt, sz, er, ⟨0, 0, 0, 0, 0, 0⟩⟩ : Cll) W
 have XG := fun (op : BinOp) (x y : Operand) (xs ys : Array Value) (W : World) => guard48 op x y xs ys W
 have hM : R = (decide ((⟨kind, limit, other, fr, tt, sz, er, ⟨c1, c2, c3, c4, c5, c6⟩⟩ : Cll) = ⟨kind, limit, 0, fr, tt, sz, er, ⟨0, 0, 0, 0, 0, 0⟩⟩) && [limit].all (limB F) && [fr, tt].all (staB F) && decide (fr ≠ tt) && sizedB ⟨kind, limit, other, fr, tt, sz, er, ⟨c1, c2, c3, c4, c5, c6⟩⟩ (-100000)) := by
  rw [← hR]; unfold levelB; simp [crs0, Bool.and_assoc]
 have H0 := hidE (fun W => limitsC_any (W.alloc (.cells #[.int .i64 limit] 3)) x F ⟨kind, limit, other, fr, tt, sz, er, ⟨c1, c2, c3, c4, c5, c6⟩⟩ (some ⟨W.heap.size, 0, none⟩) 1 [limit] (by simp) hl (ints_single W limit))
 have H1 := hidE (fun W => stationsC_any (W.alloc (.cells #[.int .i64 fr, .int .i64 tt] 3)) x F ⟨kind, limit, other, fr, tt, sz, er, ⟨c1, c2, c3, c4, c5, c6⟩⟩ (some ⟨W.heap.size, 0, none⟩) 2 [fr, tt] (by simp) hs (ints_pair W fr tt))
 have H3 := hidE (fun W => sized_any W x F ⟨kind, limit, other, fr, tt, sz, er, ⟨c1, c2, c3, c4, c5, c6⟩⟩ (-100000))
 obtain ⟨p0, hp0⟩ : ∃ p, [limit].all (limB F) = p := ⟨_, rfl⟩
 rw [hp0] at hM H0
 clear hp0
 obtain ⟨p1, hp1⟩ : ∃ p, [fr, tt].all (staB F) = p := ⟨_, rfl⟩
 rw [hp1] at hM H1
 clear hp1
 obtain ⟨p3, hp3⟩ : ∃ p, sizedB ⟨kind, limit, other, fr, tt, sz, er, ⟨c1, c2, c3, c4, c5, c6⟩⟩ (-100000) = p := ⟨_, rfl⟩
 rw [hp3] at hM H3
 clear hp3
 obtain ⟨q, hq⟩ : ∃ q, decide ((⟨kind, limit, other, fr, tt, sz, er, ⟨c1, c2, c3, c4, c5, c6⟩⟩ : Cll) = ⟨kind, limit, 0, fr, tt, sz, er, ⟨0, 0, 0, 0, 0, 0⟩⟩) = q := ⟨_, rfl⟩
 rw [hq] at hM XE
 clear hq
 unfold Cll.vals at XE
 dsimp only at XE
 have HM := hidE hM
 clear hM hR
 try unfold Crs.val Crs.vals at *
 try dsimp only at *
 go_enter Tryz.func293, Tryz.ntmps293
 go_upto_region 1 with fail
 rw [← hw0]
 clear hw0
 go_upto_region 2 with fail
 rw [← hw1]
 clear hw1 kk J0
 obtain ⟨u0, rfl⟩ : ∃ z : World, z = w1 := ⟨w1, rfl⟩
 have Q0 := J1
 clear J1
 cases q with
 | false =>
   obtain rfl : R = false := by rw [HM.out]; simp
   go_wp2_with fail
   go_ret
   exact ⟨rfl, Q0.out.b⟩
 | true =>
   go_wp2_with (refine wpList_load_rowG rfl 245 _ rfl _ rfl w.heap.size rfl 245 _ (0,0) _ Q0.out.k Tryz.underlying245 rfl (by kernel_rfl) ?_)
   refine (H0.out _).mono ?_
   rintro e u1 ⟨rfl, hb1⟩
   have Q1 := hidE (Q0.out.next (((Below.refl _ _).alloc (Nat.le_refl _) _).trans (hb1.mono (by simp))))
   clear hb1 Q0 k1 k2
   have k1 := rowc Q1.out.k
   unfold dcV at k1
   dsimp only at k1
   cases p0 with
   | false =>
     obtain rfl : R = false := by rw [HM.out]; simp
     go_wp2_with fail
     go_ret
     exact ⟨rfl, Q1.out.b⟩
   | true =>
     go_wp2_with (refine wpList_load_rowG rfl 245 _ rfl _ rfl w.heap.size rfl 245 _ (0,0) _ Q1.out.k Tryz.underlying245 rfl (by kernel_rfl) ?_)
     refine (H1.out _).mono ?_
     rintro e u2 ⟨rfl, hb2⟩
     have Q2 := hidE (Q1.out.next (((Below.refl _ _).alloc (Nat.le_refl _) _).trans (hb2.mono (by simp))))
     clear hb2 Q1 k1
     have k1 := rowc Q2.out.k
     unfold dcV at k1
     dsimp only at k1
     cases p1 with
     | false =>
       obtain rfl : R = false := by rw [HM.out]; simp
       go_wp2_with fail
       go_ret
       exact ⟨rfl, Q2.out.b⟩
     | true =>
       by_cases q2 : fr ≠ tt
       rotate_left
       ·obtain rfl : R = false := by rw [HM.out, decide_eq_false q2]; simp
        have qb2 : (fr != tt) = false := by simpa using q2
        go_wp2_with fail
        go_ret
        first | exact ⟨rfl, Q2.out.b⟩ | (refine ⟨?_, Q2.out.b⟩; simp; omega)
       rw [decide_eq_true q2] at HM
       have qb2 : (fr != tt) = true := by simpa using q2
       have QN2 := hidE q2
       clear q2
       go_wp2_with (refine wpList_load_rowG rfl 245 _ rfl _ rfl w.heap.size rfl 245 _ (0,0) _ Q2.out.k Tryz.underlying245 rfl (by kernel_rfl) ?_)
       refine (H3.out _).mono ?_
       rintro e u3 ⟨rfl, hb3⟩
       have Q3 := hidE (Q2.out.next hb3)
       clear hb3 Q2 k1
       have k1 := rowc Q3.out.k
       unfold dcV at k1
       dsimp only at k1
       cases p3 with
       | false =>
         obtain rfl : R = false := by rw [HM.out]; simp
         go_wp2_with fail
         go_ret
         exact ⟨rfl, Q3.out.b⟩
       | true =>
         obtain rfl : R = true := by rw [HM.out]; simp
         go_wp2_with (refine wpList_load_rowG rfl 245 _ rfl _ rfl w.heap.size rfl 245 _ (0,0) _ Q3.out.k Tryz.underlying245 rfl (by kernel_rfl) ?_)
         go_ret
         exact ⟨rfl, Q3.out.b⟩
theorem tO {P : Program} {ops : Array Oper} {Q : Exit → Act → World → Prop} {md : Region.Mode} {S : World → Prop} {last : Nat} {oi : Oper} {fuel : Nat} {listed : Array Bool} {a : Act} {w : World} (i d : Nat) (hi : ops[i]? = some oi) (hB : (decide (ops.size ≤ last) && tkB md ops listed i d) = true)
 (hw : Region.wanted oi (yielded ops a.tmps) = false) (hQ : ∀ c a w, Q (.panic c) (a.put oi.dst undef) w → Q (.panic c) a w) (hS : S w)
 (h : wpAnyF P md ops Q S last fuel (listed.setIfInBounds i true) { a with tmps := a.tmps.setIfInBounds d undef } w) : wpAnyF P md ops Q S last (fuel + 1) listed a w := by
 simp only [Bool.and_eq_true, decide_eq_true_eq] at hB
 obtain ⟨h1, h2, h3, h4⟩ := tkB_spec hi hB.2
 exact wpAnyN_takeD hB.1 hi h1 h2 h3 h4 hQ (.inr ⟨hw, rfl⟩) hS h
theorem sta_x {F : Fld} (h : F.check = 0) {k : Nat} (hk : k < F.sts.length) : 0 ≤ (F.sts.getD k sta0).x ∧ (F.sts.getD k sta0).x ≤ 100000 := by
 have h1 := (fld_facts h).2.2.2.2.2.2.2
 have hm : F.sts.getD k sta0 ∈ F.sts := by rw [List.getD_eq_getElem?_getD, List.getElem?_eq_getElem hk]; exact List.getElem_mem hk
 have : inR (F.sts.getD k sta0).x 0 100000 = true := by
  cases q : inR (F.sts.getD k sta0).x 0 100000
  ·have : (F.sts.any fun s => !inR s.x 0 100000) = true := List.any_eq_true.2 ⟨_, hm, by rw [q]; rfl⟩
   rw [this] at h1; cases h1
  ·rfl
 exact inR_iff.1 this
theorem runF_bd {F : Fld} (h : F.check = 0) {c : Cll} (h1 : staB F c.fr = true) (h2 : staB F c.tt = true) : -100000 ≤ runF F c ∧ runF F c ≤ 100000 := by
 rw [staB_iff] at h1 h2
 have a := sta_x h (k := c.tt.toNat) (by omega)
 have b := sta_x h (k := c.fr.toNat) (by omega)
 unfold runF
 omega
theorem sta_at {w : World} {x : FV} {F : Fld} (h : FldAt w x F) {k : Int} (hk : staB F k = true) : ∃ (n b off : Nat), k = n ∧ n < F.sts.length ∧ x.aS = some ⟨b, off, none⟩ ∧ b < w.heap.size ∧ w.cell? ⟨b, off + n * 2 + 1, none⟩ = some (.int .i64 (F.sts.getD k.toNat sta0).x) := by
 rw [staB_iff] at hk
 obtain ⟨n, rfl⟩ : ∃ n : Nat, k = n := ⟨k.toNat, by omega⟩
 have hn : n < F.sts.length := by omega
 obtain ⟨b, off, e, hb, hc⟩ := RecsAt.at h.st hn
 refine ⟨n, b, off, rfl, hn, e, hb, ?_⟩
 rw [hc 1 (by omega)]
 simp [Sta.cells, List.getD_eq_getElem?_getD, hn]
set_option maxHeartbeats 1000000 in
theorem run_any (w : World) (x : FV) (F : Fld) (c : Cll) (hF : F.check = 0) (h : FldAt w x F) (h1 : staB F c.fr = true) (h2 : staB F c.tt = true) :
 Calls Tryz.prog 272 #[.agg (dcV x F c)] w fun e w' => e = .returned (.int .i64 (runF F c)) ∧ Below w.heap.size w w' := by
 have hb := runF_bd hF h1 h2
 have hl := (fld_facts hF).1
 obtain ⟨w0, hw0⟩ : ∃ W, W = w.alloc (.cells (dcV x F c) 245) := ⟨_, rfl⟩
 have J0 := hidE (show CJ w x F c w0 by rw [hw0]; exact CJ.start _ _ _ _)
 have kk := rowc J0.out.k
 have h0 : FldAt w0 x F := by rw [hw0]; exact h.alloc _
 obtain ⟨n, b, off, e1, hn, e2, hbb, c1⟩ := sta_at h0 h1
 obtain ⟨m, b', off', e1', hm, e2', _, c2⟩ := sta_at h0 h2
 rw [e2] at e2'
 cases e2'
 unfold runF at hb ⊢
 obtain ⟨X, hX⟩ : ∃ X, (F.sts.getD c.fr.toNat sta0).x = X := ⟨_, rfl⟩
 obtain ⟨Y, hY⟩ : ∃ Y, (F.sts.getD c.tt.toNat sta0).x = Y := ⟨_, rfl⟩
 rw [hX] at hb c1 ⊢
 rw [hY] at hb c2 ⊢
 unfold dcV at *
 rw [e1, e1', e2] at kk
 have kw : IntKind.i64.wrap (Y - X) = Y - X := IntWalk.i64_in _ (by omega)
 have d1 : decide ((n : Int) < (F.sts.length : Int)) = true := by simp; omega
 have d2 : decide ((m : Int) < (F.sts.length : Int)) = true := by simp; omega
 clear h h0 hX hY h1 h2 e1 e1' e2 hF
 go_enter Tryz.func272, Tryz.ntmps272
 go_upto_region 1 with fail
 rw [← hw0]
 clear hw0
 go_quiet (fail)
 go_wp2_with fail
 go_ret
 exact ⟨rfl, J0.out.b.trans (below_drewN' _ _)⟩
def kindA : Array Value := #[.string ByteArray.empty, .nilFunc, .nilFunc, .string ⟨#[115, 116, 111, 110, 101]⟩, .func (.func 285) #[] #[], .func (.func 286) #[] #[], .string ⟨#[119, 105, 100, 116, 104]⟩, .func (.func 287) #[] #[], .func (.func 288) #[] #[], .string ⟨#[99, 111, 117, 114, 115, 101]⟩, .func (.func 289) #[] #[], .func (.func 290) #[] #[], .string ⟨#[97, 108, 111, 110, 103]⟩, .func (.func 291) #[] #[], .func (.func 292) #[] #[], .string ⟨#[108, 101, 118, 101, 108]⟩, .func (.func 293) #[] #[], .func (.func 294) #[] #[]]
set_option maxRecDepth 100000 in
theorem kinds_any (w : World) : Calls Tryz.prog 269 #[] w fun e w' => e = .returned (.agg kindA) ∧ Below w.heap.size w w' := by
 go_enter Tryz.func269, Tryz.ntmps269
 go_upto_region 1 with fail
 refine wp_region_list ?_
 refine wpList_buildTo rfl _ _ rfl #[.string ⟨#[115, 116, 111, 110, 101]⟩, .func (.func 285) #[] #[], .func (.func 286) #[] #[]] (by kernel_rfl) ?_
 refine wpList_buildTo rfl _ _ rfl #[.string ⟨#[119, 105, 100, 116, 104]⟩, .func (.func 287) #[] #[], .func (.func 288) #[] #[]] (by kernel_rfl) ?_
 refine wpList_buildTo rfl _ _ rfl #[.string ⟨#[99, 111, 117, 114, 115, 101]⟩, .func (.func 289) #[] #[], .func (.func 290) #[] #[]] (by kernel_rfl) ?_
 refine wpList_buildTo rfl _ _ rfl #[.string ⟨#[97, 108, 111, 110, 103]⟩, .func (.func 291) #[] #[], .func (.func 292) #[] #[]] (by kernel_rfl) ?_
 refine wpList_buildTo rfl _ _ rfl #[.string ⟨#[108, 101, 118, 101, 108]⟩, .func (.func 293) #[] #[], .func (.func 294) #[] #[]] (by kernel_rfl) ?_
 refine wpList_buildTo rfl _ _ rfl kindA (by kernel_rfl) ?_
 refine wpList_store_row rfl 286 _ _ rfl w.heap.size kindA rfl rfl 286 _ (heap_alloc_new _ _) (by kernel_rfl) (by kernel_rfl) (by kernel_rfl) ?_
 go_wp2_with fail
 refine bodyPost_ret (v := .agg kindA) (results_cell_one Tryz.results269 _ _ w.heap.size 286 kindA (0,0) _ rfl (setRow_heap _ _ _ _ _ _ (heap_alloc_new _ _)) Tryz.underlying286 rfl (by kernel_rfl)) rfl ⟨rfl, below_setRow ((Below.refl _ _).alloc (Nat.le_refl _) _) (Nat.le_refl _) _⟩
theorem yload {P : Program} {o : Oper} {a : Act} {V : World} {ty : TypeId} {x : Operand} {g : Nat} {t : TypeId} {cs : Array Value} {fr : Nat × Nat} {d : TypeDesc} (ho : o.op = .load ty x) (hx : a.eval x = .pointer (some ⟨g, 0, none⟩)) (hg : V.heap[g]? = some (.cells cs t fr))
 (hu : P.underlying ty = some d) (hd : (match d with | .struct _ | .array _ _ => true | _ => false) = true) (hi : (P.info? ty).map (·.size) = some cs.size) : (execOp a.eval o).run P V = .ok (.value (.agg cs)) V := by
 unfold execOp
 simp only [ho, hx, Instr.loadAt, Instr.sureAddr, Sem.run_bind, Sem.run_pure, Result.andThen_ok, run_loadVar_row V g t ty cs fr d hg hu hd hi]
theorem in5 {k : Int} (h : 1 ≤ k ∧ k ≤ 5) : inR k 1 5 = true := inR_iff.2 h
theorem in5' {k : Int} (h : ¬ (1 ≤ k ∧ k ≤ 5)) : inR k 1 5 = false := by
 cases q : inR k 1 5
 ·rfl
 ·exact absurd (inR_iff.1 q) h
set_option maxRecDepth 100000 in
set_option maxHeartbeats 4000000 in
theorem checkOut_any (w : World) (x : FV) (F : Fld) (c : Cll) (hk : 0 ≤ c.kind ∧ c.kind ≤ 255) (hko : ¬ (1 ≤ c.kind ∧ c.kind ≤ 5)) :
 Calls Tryz.prog 225 #[.agg (dcV x F c)] w fun e w' => e = .returned (.int .i64 1) ∧ Below w.heap.size w w' := by
 obtain ⟨w0, hw0⟩ : ∃ W, W = w.alloc (.cells (dcV x F c) 245) := ⟨_, rfl⟩
 have J0 := hidE (show CJ w x F c w0 by rw [hw0]; exact CJ.start _ _ _ _)
 have HIN := hidE (fun W => inD_any c.kind 1 5 W)
 rw [in5' hko] at HIN
 have w5 : IntKind.i64.wrap 5 = 5 := IntWalk.i64_in _ (by omega)
 have wk : IntKind.i64.wrap c.kind = c.kind := IntWalk.i64_in _ (by omega)
 go_enter Tryz.func225, Tryz.ntmps225
 go_upto_region 1 with fail
 rw [← hw0]
 clear hw0
 have hS1 : Kb [(w.heap.size, dcO x F c)] w0.drew := ⟨(J0.out.next (Below.refl _ w0).drew).k, trivial⟩
 have B1 := hidE (J0.out.next (Below.refl _ w0).drew).b
 refine wp_region_F (S := Kb [(w.heap.size, dcO x F c)]) (last := 100) (by kernel_rfl) ?_
 refine tF 0 9 (.pointer (some ⟨w.heap.size, 4, none⟩)) rfl (by kernel_rfl) rfl (fun _ _ _ h => h) (fun V hV => ?_) hS1 ?_
 ·simp [go_sem, execOp]
 try simp only [sA, sB, sC]
 refine tF 1 10 (.pointer (some ⟨w.heap.size, 4, none⟩)) rfl (by kernel_rfl) rfl (fun _ _ _ h => h) (fun V hV => ?_) hS1 ?_
 ·simp [go_sem, execOp]
 try simp only [sA, sB, sC]
 refine tF 2 11 (.int .u8 c.kind) rfl (by kernel_rfl) rfl (fun _ _ _ h => h) (fun V hV => ?_) hS1 ?_
 ·(have z := rowc hV.1; unfold dcV at z; simp [go_sem, execOp, z])
 try simp only [sA, sB, sC]
 refine tF 3 12 (.int .i64 c.kind) rfl (by kernel_rfl) rfl (fun _ _ _ h => h) (fun V hV => ?_) hS1 ?_
 ·simp [go_sem, execOp, wk]
 try simp only [sA, sB, sC]
 refine wpAnyF_step 4 rfl (by kernel_rfl) (fun K hK => ?_)
 go_simp
 go_at_call 269
 refine (kinds_any _).mono ?_
 rintro e u2 ⟨rfl, hb2⟩
 have hS2 := hS1.next hb2
 have B2 := hidE (B1.out.trans (hb2.mono B1.out.size))
 clear hb2
 go_wp2_with fail
 refine hK.out _ _ (.inr hS2) ?_
 clear hK K
 try simp only [Act.put, sA, sB, sC]
 refine tF 5 14 (.int .i64 6) rfl (by kernel_rfl) rfl (fun _ _ _ h => h) (fun V hV => ?_) hS2 ?_
 ·simp [go_sem, execOp]
 try simp only [sA, sB, sC]
 refine tF 6 15 (.int .i64 5) rfl (by kernel_rfl) rfl (fun _ _ _ h => h) (fun V hV => ?_) hS2 ?_
 ·simp [go_sem, execOp, w5]
 try simp only [sA, sB, sC]
 refine wpAnyF_step 7 rfl (by kernel_rfl) (fun K hK => ?_)
 go_simp
 go_at_call 137
 refine (HIN.out _).mono ?_
 rintro e wq ⟨rfl, rfl⟩
 go_wp2_with fail
 refine hK.out _ _ (.inr hS2) ?_
 clear hK K
 try simp only [Act.put, sA, sB, sC]
 refine tF 8 17 (.bool true) rfl (by kernel_rfl) rfl (fun _ _ _ h => h) (fun V hV => ?_) hS2 ?_
 ·simp [go_sem, execOp]
 try simp only [sA, sB, sC]
 refine tF 9 18 (.bool true) rfl (by kernel_rfl) rfl (fun _ _ _ h => h) (fun V hV => ?_) hS2 ?_
 ·simp [go_sem, execOp]
 try simp only [sA, sB, sC]
 refine tO 11 20 rfl (by kernel_rfl) rfl (fun _ _ _ h => h) hS2 ?_
 try simp only [sA, sB, sC]
 refine tO 12 21 rfl (by kernel_rfl) rfl (fun _ _ _ h => h) hS2 ?_
 try simp only [sA, sB, sC]
 refine tO 13 22 rfl (by kernel_rfl) rfl (fun _ _ _ h => h) hS2 ?_
 try simp only [sA, sB, sC]
 refine tO 16 25 rfl (by kernel_rfl) rfl (fun _ _ _ h => h) hS2 ?_
 try simp only [sA, sB, sC]
 refine tO 10 19 rfl (by kernel_rfl) rfl (fun _ _ _ h => h) hS2 ?_
 try simp only [sA, sB, sC]
 refine tO 14 23 rfl (by kernel_rfl) rfl (fun _ _ _ h => h) hS2 ?_
 try simp only [sA, sB, sC]
 refine tO 15 24 rfl (by kernel_rfl) rfl (fun _ _ _ h => h) hS2 ?_
 try simp only [sA, sB, sC]
 refine tO 17 26 rfl (by kernel_rfl) rfl (fun _ _ _ h => h) hS2 ?_
 try simp only [sA, sB, sC]
 refine tO 18 27 rfl (by kernel_rfl) rfl (fun _ _ _ h => h) hS2 ?_
 try simp only [sA, sB, sC]
 refine tF 19 28 (.bool true) rfl (by kernel_rfl) rfl (fun _ _ _ h => h) (fun V hV => ?_) hS2 ?_
 ·simp [go_sem, execOp]
 try simp only [sA, sB, sC]
 refine wpAnyF_done (by kernel_rfl) ?_ _
 go_wp2_with fail
 go_ret
 exact ⟨rfl, B2.out⟩
theorem right_st {F : Fld} {c : Cll} (h : rightB F c = true) (h3 : c.kind = 3) : staB F c.fr = true ∧ staB F c.tt = true ∧ c.crs.ok = true := by
 unfold rightB at h
 rw [if_neg (by omega), if_neg (by omega), if_pos h3] at h
 unfold courseB at h
 simp only [Bool.and_eq_true] at h
 exact ⟨h.1.1.2.1, h.1.1.2.2, h.2⟩
set_option maxRecDepth 100000 in
set_option maxHeartbeats 8000000 in
theorem checkIn_any (w : World) (x : FV) (F : Fld) (c : Cll) (hF : F.check = 0) (h : FldAt w x F) (hk : 1 ≤ c.kind ∧ c.kind ≤ 5) (f : Nat) (s1 s2 : Value)
 (hidx : ∀ W : World, (Instr.index 286 (.agg kindA) (.int .u8 c.kind)).run Tryz.prog W = .ok (.agg #[s1, .func (.func f) #[] #[], s2]) W) (eg : Enters Tryz.prog f)
 (hcall0 : ∀ W, Calls Tryz.prog f #[.agg (dcV x F c)] W fun e w' => e = .returned (.bool (rightB F c)) ∧ Below W.heap.size W w') :
 Calls Tryz.prog 225 #[.agg (dcV x F c)] w fun e w' => e = .returned (.int .i64 (callE F c)) ∧ Below w.heap.size w w' := by
 obtain ⟨R, hR⟩ : ∃ R, callE F c = R := ⟨_, rfl⟩
 rw [hR]
 unfold callE at hR
 have HST := hidE (right_st (F := F) (c := c))
 obtain ⟨q, hq⟩ : ∃ q, rightB F c = q := ⟨_, rfl⟩
 have hcall := hcall0
 rw [hq] at hR hcall HST
 clear hq hcall0
 obtain ⟨w0, hw0⟩ : ∃ W, W = w.alloc (.cells (dcV x F c) 245) := ⟨_, rfl⟩
 have J0 := hidE (show CJ w x F c w0 by rw [hw0]; exact CJ.start _ _ _ _)
 have HIN := hidE (fun W => inD_any c.kind 1 5 W)
 rw [in5 hk] at HIN
 have w5 : IntKind.i64.wrap 5 = 5 := IntWalk.i64_in _ (by omega)
 have wk : IntKind.i64.wrap c.kind = c.kind := IntWalk.i64_in _ (by omega)
 have hfld : ∀ W : World, (Instr.field 285 (.agg #[s1, .func (.func f) #[] #[], s2]) 1).run Tryz.prog W = .ok (.func (.func f) #[] #[]) W := fun W => by kernel_rfl
 have HRR := hidE hR
 unfold Enters at eg
 clear hR
 go_enter Tryz.func225, Tryz.ntmps225
 go_upto_region 1 with fail
 rw [← hw0]
 clear hw0
 have hS1 : Kb [(w.heap.size, dcO x F c)] w0.drew := ⟨(J0.out.next (Below.refl _ w0).drew).k, trivial⟩
 have B1 := hidE (J0.out.next (Below.refl _ w0).drew).b
 refine wp_region_F (S := Kb [(w.heap.size, dcO x F c)]) (last := 100) (by kernel_rfl) ?_
 refine tF 0 9 (.pointer (some ⟨w.heap.size, 4, none⟩)) rfl (by kernel_rfl) rfl (fun _ _ _ h => h) (fun V hV => ?_) hS1 ?_
 ·simp [go_sem, execOp]
 try simp only [sA, sB, sC]
 refine tF 1 10 (.pointer (some ⟨w.heap.size, 4, none⟩)) rfl (by kernel_rfl) rfl (fun _ _ _ h => h) (fun V hV => ?_) hS1 ?_
 ·simp [go_sem, execOp]
 try simp only [sA, sB, sC]
 refine tF 2 11 (.int .u8 c.kind) rfl (by kernel_rfl) rfl (fun _ _ _ h => h) (fun V hV => ?_) hS1 ?_
 ·(have z := rowc hV.1; unfold dcV at z; simp [go_sem, execOp, z])
 try simp only [sA, sB, sC]
 refine tF 3 12 (.int .i64 c.kind) rfl (by kernel_rfl) rfl (fun _ _ _ h => h) (fun V hV => ?_) hS1 ?_
 ·simp [go_sem, execOp, wk]
 try simp only [sA, sB, sC]
 refine wpAnyF_step 4 rfl (by kernel_rfl) (fun K hK => ?_)
 go_simp
 go_at_call 269
 refine (kinds_any _).mono ?_
 rintro e u2 ⟨rfl, hb2⟩
 have hS2 := hS1.next hb2
 have B2 := hidE (B1.out.trans (hb2.mono B1.out.size))
 clear hb2
 go_wp2_with fail
 refine hK.out _ _ (.inr hS2) ?_
 clear hK K
 try simp only [Act.put, sA, sB, sC]
 refine tF 5 14 (.int .i64 6) rfl (by kernel_rfl) rfl (fun _ _ _ h => h) (fun V hV => ?_) hS2 ?_
 ·simp [go_sem, execOp]
 try simp only [sA, sB, sC]
 refine tF 6 15 (.int .i64 5) rfl (by kernel_rfl) rfl (fun _ _ _ h => h) (fun V hV => ?_) hS2 ?_
 ·simp [go_sem, execOp, w5]
 try simp only [sA, sB, sC]
 refine wpAnyF_step 7 rfl (by kernel_rfl) (fun K hK => ?_)
 go_simp
 go_at_call 137
 refine (HIN.out _).mono ?_
 rintro e wq ⟨rfl, rfl⟩
 go_wp2_with fail
 refine hK.out _ _ (.inr hS2) ?_
 clear hK K
 try simp only [Act.put, sA, sB, sC]
 refine tF 8 17 (.bool false) rfl (by kernel_rfl) rfl (fun _ _ _ h => h) (fun V hV => ?_) hS2 ?_
 ·simp [go_sem, execOp]
 try simp only [sA, sB, sC]
 refine tF 9 18 (.bool false) rfl (by kernel_rfl) rfl (fun _ _ _ h => h) (fun V hV => ?_) hS2 ?_
 ·simp [go_sem, execOp]
 try simp only [sA, sB, sC]
 refine tF 11 20 (.pointer (some ⟨w.heap.size, 4, none⟩)) rfl (by kernel_rfl) rfl (fun _ _ _ h => h) (fun V hV => ?_) hS2 ?_
 ·simp [go_sem, execOp]
 try simp only [sA, sB, sC]
 refine tF 12 21 (.pointer (some ⟨w.heap.size, 4, none⟩)) rfl (by kernel_rfl) rfl (fun _ _ _ h => h) (fun V hV => ?_) hS2 ?_
 ·simp [go_sem, execOp]
 try simp only [sA, sB, sC]
 refine tF 13 22 (.int .u8 c.kind) rfl (by kernel_rfl) rfl (fun _ _ _ h => h) (fun V hV => ?_) hS2 ?_
 ·(have z := rowc hV.1; unfold dcV at z; simp [go_sem, execOp, z])
 try simp only [sA, sB, sC]
 refine tF 16 25 (.agg (dcV x F c)) rfl (by kernel_rfl) rfl (fun _ _ _ h => h) (fun V hV => ?_) hS2 ?_
 ·exact yload rfl rfl hV.1 Tryz.underlying245 rfl (by kernel_rfl)
 try simp only [sA, sB, sC]
 refine wpAnyF_step 10 rfl (by kernel_rfl) (fun K hK => ?_)
 go_simp
 go_at_call 269
 refine (kinds_any _).mono ?_
 rintro e u3 ⟨rfl, hb3⟩
 have hS3 := hS2.next hb3
 have B3 := hidE (B2.out.trans (hb3.mono B2.out.size))
 clear hb3
 go_wp2_with fail
 refine hK.out _ _ (.inr hS3) ?_
 clear hK K
 try simp only [Act.put, sA, sB, sC]
 refine tF 14 23 (.agg #[s1, .func (.func f) #[] #[], s2]) rfl (by kernel_rfl) rfl (fun _ _ _ h => h) (fun V hV => ?_) hS3 ?_
 ·simp [go_sem, execOp, hidx]
 try simp only [sA, sB, sC]
 refine tF 15 24 (.func (.func f) #[] #[]) rfl (by kernel_rfl) rfl (fun _ _ _ h => h) (fun V hV => ?_) hS3 ?_
 ·simp [go_sem, execOp, hfld]
 try simp only [sA, sB, sC]
 refine wpAnyF_step 17 rfl (by kernel_rfl) (fun K hK => ?_)
 go_simp
 go_at_fn f
 refine (hcall _).mono ?_
 rintro e u4 ⟨rfl, hb4⟩
 have hS4 := hS3.next hb4
 have B4 := hidE (B3.out.trans (hb4.mono B3.out.size))
 clear hb4
 go_wp2_with fail
 refine hK.out _ _ (.inr hS4) ?_
 clear hK K
 try simp only [Act.put, sA, sB, sC]
 refine tF 18 27 (.bool (!q)) rfl (by kernel_rfl) rfl (fun _ _ _ h => h) (fun V hV => ?_) hS4 ?_
 ·simp [go_sem, execOp]
 try simp only [sA, sB, sC]
 refine tF 19 28 (.bool (!q)) rfl (by kernel_rfl) rfl (fun _ _ _ h => h) (fun V hV => ?_) hS4 ?_
 ·simp [go_sem, execOp]
 try simp only [sA, sB, sC]
 refine wpAnyF_done (by kernel_rfl) ?_ _
 cases q with
 | false =>
   have hR := HRR.out
   rw [if_pos rfl] at hR
   subst hR
   go_wp2_with fail
   go_ret
   exact ⟨rfl, B4.out⟩
 | true =>
 have hR := HRR.out
 rw [if_neg (by simp)] at hR
 clear HRR
 have kk := rowc hS4.1
 unfold dcV at kk
 by_cases h3 : c.kind = 3
 rotate_left
 ·rw [if_pos h3] at hR
  subst hR
  have h3b : (c.kind != 3) = true := by simpa using h3
  have h3c : decide (c.kind = 3) = false := by simpa using h3
  clear h3
  go_wp2_with fail
  go_ret
  exact ⟨rfl, B4.out⟩
 rw [if_neg (by omega)] at hR
 obtain ⟨hs1, hs2, hok⟩ := HST.out rfl h3
 have HD := hidE (fun W (hW : VrnsAt W x.aV F.vrs) => decl_any W x.aV x.cV F.vrs c.crs.year (by have := h.lv; omega) hW)
 have HRUN := hidE (fun W (hW : FldAt W x F) => run_any W x F c hF hW hs1 hs2)
 have HITV := hidE (fun W (hW : VrnsAt W x.aV F.vrs) => itvE_any W x.aV x.cV F.vrs c.crs (runF F c) (by have := h.lv; omega) hW)
 unfold itvC at hR
 obtain ⟨D, hD⟩ : ∃ D, declP F.vrs c.crs.year = D := ⟨_, rfl⟩
 obtain ⟨run, hrun⟩ : ∃ r, runF F c = r := ⟨_, rfl⟩
 rw [hrun] at hR HRUN HITV
 obtain ⟨⟨r1, er⟩, hr⟩ : ∃ r, itvE F.vrs c.crs run = r := ⟨_, rfl⟩
 rw [hr] at HITV hR
 rw [hD] at HD hR
 clear hD hrun hr hs1 hs2 hok HST hcall hidx
 have h3b : (c.kind != 3) = false := by rw [h3]; rfl
 have H3 := hidE h3
 clear h3
 go_wp2_with fail
 refine (HD.out _ (h.below B4.out).vr).mono ?_
 rintro e u5 ⟨rfl, hb5⟩
 have hS5 := hS4.next hb5
 have B5 := hidE (B4.out.trans (hb5.mono B4.out.size))
 clear hb5 kk HD
 cases D with
 | none =>
   rw [if_pos rfl] at hR
   subst hR
   unfold declV
   go_wp2_with fail
   go_ret
   exact ⟨rfl, B5.out⟩
 | some dd =>
 rw [if_neg (by simp)] at hR
 unfold declV
 go_upto_region 8 with fail
 have hS6 : Kb [(w.heap.size, dcO x F c)] u5.drew := hS5.drew
 have B6 := hidE (B5.out.trans (Below.refl _ u5).drew)
 obtain ⟨p1, p2, is, hV, hR2⟩ : ∃ p1 p2 is, itvV (r1, er) = .tuple #[.int .i64 p1, .int .i64 p2, .bool is, .int .i64 er] ∧ R = if er ≠ 0 then er else if is = false then 5 else 0 := by
  cases r1 with
  | none => exact ⟨0, 0, false, rfl, by rw [← hR]; simp⟩
  | some p => exact ⟨p.1, p.2, true, rfl, by rw [← hR]; simp⟩
 rw [hV] at HITV
 have HR2 := hidE hR2
 clear hR hR2 hV hS1 hS4 hS5 B1 B4 B5
 refine wp_region_F (S := Kb [(w.heap.size, dcO x F c)]) (last := 100) (by kernel_rfl) ?_
 refine tF 0 47 (.pointer (some ⟨w.heap.size, 0, none⟩)) rfl (by kernel_rfl) rfl (fun _ _ _ h => h) (fun V hV => ?_) hS6 ?_
 ·simp [go_sem, execOp]
 try simp only [sA, sB, sC]
 refine tF 1 48 (.pointer (some ⟨w.heap.size, 3, none⟩)) rfl (by kernel_rfl) rfl (fun _ _ _ h => h) (fun V hV => ?_) hS6 ?_
 ·simp [go_sem, execOp]
 try simp only [sA, sB, sC]
 refine tF 2 49 (.slice x.aV F.vrs.length x.cV) rfl (by kernel_rfl) rfl (fun _ _ _ h => h) (fun V hV => ?_) hS6 ?_
 ·(have z := rowc hV.1; unfold dcV at z; simp [go_sem, execOp, z])
 try simp only [sA, sB, sC]
 refine tF 3 50 (.pointer (some ⟨w.heap.size, 4, none⟩)) rfl (by kernel_rfl) rfl (fun _ _ _ h => h) (fun V hV => ?_) hS6 ?_
 ·simp [go_sem, execOp]
 try simp only [sA, sB, sC]
 refine tF 4 51 (.pointer (some ⟨w.heap.size, 11, none⟩)) rfl (by kernel_rfl) rfl (fun _ _ _ h => h) (fun V hV => ?_) hS6 ?_
 ·simp [go_sem, execOp]
 try simp only [sA, sB, sC]
 refine tF 5 52 (.agg #[.int .i64 c.crs.bearing, .int .i64 c.crs.needle, .int .i64 c.crs.links, .int .i64 c.crs.year, .int .i64 c.crs.wear, .int .i64 c.crs.slack]) rfl (by kernel_rfl) rfl (fun _ _ _ h => h) (fun V hV => ?_) hS6 ?_
 ·(have z := rowc hV.1; unfold dcV at z; simp [go_sem, execOp, z])
 try simp only [sA, sB, sC]
 refine tF 6 53 (.agg (dcV x F c)) rfl (by kernel_rfl) rfl (fun _ _ _ h => h) (fun V hV => ?_) hS6 ?_
 ·exact yload rfl rfl hV.1 Tryz.underlying245 rfl (by kernel_rfl)
 try simp only [sA, sB, sC]
 refine wpAnyF_step 7 rfl (by kernel_rfl) (fun K hK => ?_)
 go_simp
 go_at_call 272
 refine (HRUN.out _ (h.below B6.out)).mono ?_
 rintro e u7 ⟨rfl, hb7⟩
 have hS7 := hS6.next hb7
 have B7 := hidE (B6.out.trans (hb7.mono B6.out.size))
 clear hb7
 go_wp2_with fail
 refine hK.out _ _ (.inr hS7) ?_
 clear hK K
 try simp only [Act.put, sA, sB, sC]
 refine wpAnyF_step 8 rfl (by kernel_rfl) (fun K hK => ?_)
 go_simp
 go_at_call 271
 refine (HITV.out _ (h.below B7.out).vr).mono ?_
 rintro e u8 ⟨rfl, hb8⟩
 have hS8 := hS7.next hb8
 have B8 := hidE (B7.out.trans (hb8.mono B7.out.size))
 clear hb8
 go_wp2_with fail
 refine hK.out _ _ (.inr hS8) ?_
 clear hK K
 try simp only [Act.put, sA, sB, sC]
 refine tF 9 46 (.tuple #[.int .i64 p1, .int .i64 p2, .bool is, .int .i64 er]) rfl (by kernel_rfl) rfl (fun _ _ _ h => h) (fun V hV => ?_) hS8 ?_
 ·simp [go_sem, execOp]
 try simp only [sA, sB, sC]
 refine tF 10 56 (.int .i64 p1) rfl (by kernel_rfl) rfl (fun _ _ _ h => h) (fun V hV => ?_) hS8 ?_
 ·simp [go_sem, execOp]
 try simp only [sA, sB, sC]
 refine tF 11 57 (.int .i64 p2) rfl (by kernel_rfl) rfl (fun _ _ _ h => h) (fun V hV => ?_) hS8 ?_
 ·simp [go_sem, execOp]
 try simp only [sA, sB, sC]
 refine tF 12 58 (.bool is) rfl (by kernel_rfl) rfl (fun _ _ _ h => h) (fun V hV => ?_) hS8 ?_
 ·simp [go_sem, execOp]
 try simp only [sA, sB, sC]
 refine tF 13 59 (.int .i64 er) rfl (by kernel_rfl) rfl (fun _ _ _ h => h) (fun V hV => ?_) hS8 ?_
 ·simp [go_sem, execOp]
 try simp only [sA, sB, sC]
 refine tF 14 5 (.int .i64 p1) rfl (by kernel_rfl) rfl (fun _ _ _ h => h) (fun V hV => ?_) hS8 ?_
 ·simp [go_sem, execOp]
 try simp only [sA, sB, sC]
 refine tF 15 6 (.int .i64 p2) rfl (by kernel_rfl) rfl (fun _ _ _ h => h) (fun V hV => ?_) hS8 ?_
 ·simp [go_sem, execOp]
 try simp only [sA, sB, sC]
 refine tF 16 7 (.bool is) rfl (by kernel_rfl) rfl (fun _ _ _ h => h) (fun V hV => ?_) hS8 ?_
 ·simp [go_sem, execOp]
 try simp only [sA, sB, sC]
 refine tF 17 8 (.int .i64 er) rfl (by kernel_rfl) rfl (fun _ _ _ h => h) (fun V hV => ?_) hS8 ?_
 ·simp [go_sem, execOp]
 try simp only [sA, sB, sC]
 refine wpAnyF_done (by kernel_rfl) ?_ _
 by_cases he : er = 0
 ·subst he
  cases is with
  | false =>
    obtain rfl : R = 5 := by rw [HR2.out]; simp
    go_wp2_with fail
    go_ret
    exact ⟨rfl, B8.out⟩
  | true =>
    obtain rfl : R = 0 := by rw [HR2.out]; simp
    go_wp2_with fail
    go_ret
    exact ⟨rfl, B8.out⟩
 ·obtain rfl : R = er := by rw [HR2.out, if_pos he]
  have heb : (R != 0) = true := by simpa using he
  clear he
  go_wp2_with fail
  go_ret
  exact ⟨rfl, B8.out⟩
theorem callCheck_any (w : World) (x : FV) (F : Fld) (c : Cll) (hF : F.check = 0) (h : FldAt w x F) (hk : 0 ≤ c.kind ∧ c.kind ≤ 255) :
 Calls Tryz.prog 225 #[.agg (dcV x F c)] w fun e w' => e = .returned (.int .i64 (callE F c)) ∧ Below w.heap.size w w' := by
 have hl := (fld_facts hF).2.1
 have hs := (fld_facts hF).1
 by_cases hr : 1 ≤ c.kind ∧ c.kind ≤ 5
 ·by_cases k1 : c.kind = 1
  ·have e : rightB F c = stoneB F c := by unfold rightB; rw [if_pos k1]
   exact checkIn_any w x F c hF h hr 285 (.string ⟨#[115, 116, 111, 110, 101]⟩) (.func (.func 286) #[] #[]) (fun W => by rw [k1]; kernel_rfl) (enters_of Tryz.func285 (by kernel_rfl) rfl) (fun W => e ▸ stone_any W x F c (by omega) (by omega))
  ·by_cases k2 : c.kind = 2
   ·have e : rightB F c = widthB F c := by unfold rightB; rw [if_neg k1, if_pos k2]
    exact checkIn_any w x F c hF h hr 287 (.string ⟨#[119, 105, 100, 116, 104]⟩) (.func (.func 288) #[] #[]) (fun W => by rw [k2]; kernel_rfl) (enters_of Tryz.func287 (by kernel_rfl) rfl) (fun W => e ▸ width_any W x F c (by omega) (by omega))
   ·by_cases k3 : c.kind = 3
    ·have e : rightB F c = courseB F c := by unfold rightB; rw [if_neg k1, if_neg k2, if_pos k3]
     exact checkIn_any w x F c hF h hr 289 (.string ⟨#[99, 111, 117, 114, 115, 101]⟩) (.func (.func 290) #[] #[]) (fun W => by rw [k3]; kernel_rfl) (enters_of Tryz.func289 (by kernel_rfl) rfl) (fun W => e ▸ course_any W x F c (by omega) (by omega))
    ·by_cases k4 : c.kind = 4
     ·have e : rightB F c = alongB F c := by unfold rightB; rw [if_neg k1, if_neg k2, if_neg k3, if_pos k4]
      exact checkIn_any w x F c hF h hr 291 (.string ⟨#[97, 108, 111, 110, 103]⟩) (.func (.func 292) #[] #[]) (fun W => by rw [k4]; kernel_rfl) (enters_of Tryz.func291 (by kernel_rfl) rfl) (fun W => e ▸ along_any W x F c (by omega) (by omega))
     ·have k5 : c.kind = 5 := by omega
      have e : rightB F c = levelB F c := by unfold rightB; rw [if_neg k1, if_neg k2, if_neg k3, if_neg k4, if_pos k5]
      exact checkIn_any w x F c hF h hr 293 (.string ⟨#[108, 101, 118, 101, 108]⟩) (.func (.func 294) #[] #[]) (fun W => by rw [k5]; kernel_rfl) (enters_of Tryz.func293 (by kernel_rfl) rfl) (fun W => e ▸ level_any W x F c (by omega) (by omega))
 ·have e : callE F c = 1 := by
   unfold callE rightB
   rw [if_neg (show ¬ c.kind = 1 by omega), if_neg (show ¬ c.kind = 2 by omega), if_neg (show ¬ c.kind = 3 by omega), if_neg (show ¬ c.kind = 4 by omega), if_neg (show ¬ c.kind = 5 by omega), if_pos rfl]
  rw [e]
  exact checkOut_any w x F c hk hr
def callFE (F : Fld) (c : Cll) : Int := if F.check ≠ 0 then F.check else callE F c
set_option maxRecDepth 10000 in
set_option maxHeartbeats 2000000 in
theorem checkCall_any (w : World) (x : FV) (F : Fld) (c : Cll) (h : FldAt w x F) (hk : 0 ≤ c.kind ∧ c.kind ≤ 255) :
 Calls Tryz.prog 147 #[x.val F, c.val] w fun e w' => e = .returned (.int .i64 (callFE F c)) ∧ Below w.heap.size w w' := by
 obtain ⟨R, hR⟩ : ∃ R, callFE F c = R := ⟨_, rfl⟩
 rw [hR]
 unfold callFE at hR
 obtain ⟨w0, hw0⟩ : ∃ W, W = (w.alloc (.cells (x.arr F) 27)).alloc (.cells c.vals 48) := ⟨_, rfl⟩
 have B0 := hidE (show Below w.heap.size w w0 by rw [hw0]; exact ((Below.refl _ _).alloc (Nat.le_refl _) _).alloc (by simp) _)
 have X0 := hidE (show Kb [(w.heap.size + 1, .cells c.vals 48), (w.heap.size, .cells (x.arr F) 27)] w0 by
  rw [hw0]
  have := Kb.alloc (o := .cells c.vals 48) (Kb.alloc (W := w) (o := .cells (x.arr F) 27) (L := []) trivial)
  simpa using this)
 have HCF := hidE (checkField_any w0 x F (h.below B0.out))
 have HCK := hidE (fun (q : F.check = 0) W (hb : Below w.heap.size w W) => callCheck_any W x F c q (h.below hb) hk)
 have k0 := rowc X0.out.2.1
 unfold FV.val
 have HU : Hid (Value.agg (x.arr F) = .agg #[.slice x.aS F.sts.length x.cS, .slice x.aL F.lms.length x.cL, .slice x.aP F.prs.length x.cP, .slice x.aV F.vrs.length x.cV]) := hidE rfl
 obtain ⟨z, hz⟩ : ∃ z, F.check = z := ⟨_, rfl⟩
 rw [hz] at HCF hR HCK
 unfold Cll.val FV.val Cll.vals FV.arr at *
 clear hz
 go_enter Tryz.func147, Tryz.ntmps147
 go_upto_region 1 with fail
 rw [← hw0]
 clear hw0
 go_wp2_with fail
 refine HCF.out.mono ?_
 rintro e w1 ⟨rfl, hb1⟩
 have X1 := hidE (X0.out.next hb1)
 have B1 := hidE (B0.out.trans (hb1.mono B0.out.size))
 clear hb1 k0 HCF
 by_cases h0 : z = 0
 rotate_left
 ·rw [if_pos h0] at hR
  have hzb : (z != 0) = true := by simpa using h0
  subst hR
  clear h0
  go_wp2_with fail
  go_ret
  exact ⟨rfl, B1.out⟩
 subst h0
 rw [if_neg (by omega)] at hR
 go_upto_region 4 with fail
 refine wp_region_list ?_
 refine wpList_load_rowG rfl 27 _ rfl _ rfl w.heap.size rfl 27 _ (0,0) _ X1.out.2.1 Tryz.underlying27 rfl (by kernel_rfl) ?_
 refine wpList_load_rowG rfl 48 _ rfl _ rfl (w.heap.size + 1) rfl 48 _ (0,0) _ X1.out.1 Tryz.underlying48 rfl (by kernel_rfl) ?_
 refine wpList_buildTo rfl _ _ rfl (dcV x F c) (by kernel_rfl) ?_
 simp only [Act.put, sA, sB, sC]
 go_wp2_with fail
 refine (HCK.out trivial _ B1.out).mono ?_
 rintro e w2 ⟨rfl, hb2⟩
 rw [hR]
 go_wp2_with fail
 go_ret
 exact ⟨rfl, B1.out.trans (hb2.mono B1.out.size)⟩
end Go.Proofs.YtkhemfnlflbniaaGreatDoor
