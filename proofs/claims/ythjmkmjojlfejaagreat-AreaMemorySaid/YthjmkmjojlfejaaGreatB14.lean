/- Merged text 14 of the base: Av, Fr, Frf. No conditions beyond those stated. -/
import Derived.Test.YthjmkmjojlfejaaGreatB13
import Derived.Test.YthjmkmjojlfejaaGreatB08
import Derived.Test.YthjmkmjojlfejaaGreatRows
import Derived.Test.YthjmkmjojlfejaaGreatB02
import Derived.WalkKit
import Derived.ProofKit
import Derived.OpenShut
import Derived.Carry
import Derived.Lib.SmallJoins
import Derived.Deep.Slices
import Derived.Test.YthjmkmjojlfejaaGreatB03
import Derived.ChangeMaps5
namespace Go.Proofs.YthjmkmjojlfejaaGreat
open Go Go.RowKit Go.Shelf
theorem below_lit {W w' : World} {o : Obj} (h : Below (W.alloc o).heap.size (W.alloc o) w') : Below W.heap.size W w' := ((Below.refl _ _).alloc (Nat.le_refl _) _).trans (h.mono (by simp))
theorem below_lit2 {W w' : World} {o p : Obj} (h : Below ((W.alloc o).alloc p).heap.size ((W.alloc o).alloc p) w') : Below W.heap.size W w' := below_lit ((below_lit h).mono (Nat.le_refl _))
def LS (l : List Int) (err : Int) (e : Ending) (w' : World) : Prop := ∃ p : List Int, Hid (p = l) ∧ ∃ o c, e = .returned (.tuple #[.slice o p.length c, .int .i64 err]) ∧ Hid (IntsAt w' o p)
theorem ls_of {l : List Int} {err : Int} {base : Nat} {e : Ending} {w' : World} (h : ∃ v, e = .returned (.tuple #[v, .int .i64 err]) ∧ w'.ownsRow base 3 1 v l.length (intsV l)) : LS l err e w' := by
 obtain ⟨v, rfl, ho⟩ := h
 obtain ⟨o, c, rfl, hi⟩ := owns_intsAt ho
 exact ⟨l, hidE rfl, o, c, rfl, hidE hi⟩
theorem al_weights (W : World) (x : FV) (F : Fld) (hF : F = fldS) (h : FldAt W x F) : Calls Tryz.prog 49 #[x.val F, .int .i64 0] W fun e w' => LS wS 0 e w' ∧ Below W.heap.size W w' := by
 have H := weightsE_any W x F 0 h
 rw [hF] at H ⊢
 rw [wS_eq] at H
 exact H.mono fun e w' ⟨a, b⟩ => ⟨ls_of a, b⟩
theorem al_area (W : World) (x : FV) (F : Fld) (hF : F = fldS) (h : FldAt W x F) : Calls Tryz.prog 35 #[x.val F, .int .i64 0, .slice (some ⟨W.heap.size, 0, none⟩) 7 7] (W.alloc (.cells #[.int .i64 0, .int .i64 1, .int .i64 2, .int .i64 3, .int .i64 11, .int .i64 12, .int .i64 18] 3)) fun e w' => e = .returned (.tuple #[.int .i64 700, .int .i64 0]) ∧ Below W.heap.size W w' := by
 have H := area2E_any (W.alloc (.cells (intsV [0, 1, 2, 3, 11, 12, 18]).toArray 3)) x F 0 (some ⟨W.heap.size, 0, none⟩) 7 [0, 1, 2, 3, 11, 12, 18] (by simp) (h.alloc _) (ints_lit W _)
 rw [hF] at H ⊢
 rw [aS_eq] at H
 exact H.mono fun e w' ⟨a, b⟩ => ⟨a, below_lit b⟩
def GP (n : Int) (l : List Int) (e : Ending) (w' : World) : Prop := ∃ p : List Int, Hid (p = l) ∧ ∃ gy gF : Nat, ∃ ny : Nat, e = .returned (.tuple #[.int .i64 n, .slice (some ⟨gy, 0, none⟩) ny ny, .slice (some ⟨gF, 0, none⟩) p.length p.length, .int .i64 0]) ∧ Hid (IntsAt w' (some ⟨gF, 0, none⟩) p)
theorem al_greatest (W : World) (o : Option Addr) (c : Nat) (bs : List Bd) (hb : bs = sysS) (o2 : Option Addr) (c2 : Nat) (p : List Int) (hp : p = wS) (h : BoundsAt W o bs) (h2 : IntsAt W o2 p) :
 Calls Tryz.prog 23 #[.agg #[.int .i64 7, .slice o bs.length c], .slice o2 p.length c2] W fun e w' => GP 1200 flG e w' ∧ Below W.heap.size W w' := by
 have ha : askedA 7 bs p = 0 := by rw [hb, hp]; exact askS_eq
 have H := greatest_any W 7 o c bs o2 c2 p 50 (some ⟨1200, [0, 0, 0, 0, 20, 20, 20], flG⟩) (by unfold i64ok; omega) (by rw [hb]; decide) (by rw [hp]; decide) h h2 (fun _ => by rw [hb, hp]; exact bestRunB_ok gS_eq)
 rw [ha] at H
 refine H.mono fun e w' ⟨a, b⟩ => ⟨?_, b⟩
 unfold GreatPost at a
 rw [if_neg (by decide)] at a
 obtain ⟨gy, gF, rfl, _, _, _, _, h5⟩ := a
 exact ⟨flG, hidE rfl, gy, gF, _, rfl, hidE (ints_of_row h5)⟩
theorem al_least (W : World) (o : Option Addr) (c : Nat) (bs : List Bd) (hb : bs = sysS) (o2 : Option Addr) (c2 : Nat) (p : List Int) (hp : p = wS) (h : BoundsAt W o bs) (h2 : IntsAt W o2 p) :
 Calls Tryz.prog 25 #[.agg #[.int .i64 7, .slice o bs.length c], .slice o2 p.length c2] W fun e w' => GP 600 [0, 0, 0, 10, 0, 0, 0, 30, 0, 0, 0, 20] e w' ∧ Below W.heap.size W w' := by
 have ha : askedA 7 bs p = 0 := by rw [hb, hp]; exact askS_eq
 have H := least_any W 7 o c bs o2 c2 p 50 (some ⟨-600, [0, 0, 0, 0, 10, 10, 10], [0, 0, 0, 10, 0, 0, 0, 30, 0, 0, 0, 20]⟩) (by unfold i64ok; omega) (by rw [hb]; decide) (by rw [hp]; decide) h h2 (fun _ => by rw [hb, hp]; exact bestRunB_ok lS_eq)
 rw [ha] at H
 refine H.mono fun e w' ⟨a, b⟩ => ⟨?_, b⟩
 unfold LeastPost at a
 rw [if_neg (by decide)] at a
 obtain ⟨gy, gF, rfl, _, _, _, _, h5⟩ := a
 exact ⟨_, hidE rfl, gy, gF, _, rfl, hidE (ints_of_row h5)⟩
theorem al_records (W : World) (o : Option Addr) (c : Nat) (bs : List Bd) (hb : bs = sysS) (o2 : Option Addr) (c2 : Nat) (p : List Int) (hp : p = flG) (h : BoundsAt W o bs) (h2 : IntsAt W o2 p) :
 Calls Tryz.prog 61 #[.agg #[.int .i64 7, .slice o bs.length c], .slice o2 p.length c2] W fun e w' => LS [2] 0 e w' ∧ Below W.heap.size W w' := by
 have H := recordsA_any W 7 o c bs o2 c2 p (by unfold i64ok; omega) (by rw [hb]; decide) (by rw [hp]; decide) h h2
 have he : usedE 7 bs p = ([2], 0) := by rw [hb, hp]; exact rS_eq
 rw [he] at H
 exact H.mono fun e w' ⟨a, b⟩ => ⟨ls_of a, b⟩
theorem al_west (W : World) (x : FV) (F : Fld) (hF : F = fldS) (h : FldAt W x F) : Calls Tryz.prog 34 #[x.val F, .slice (some ⟨W.heap.size, 0, none⟩) 7 7, .int .i64 0, .int .i64 5] (W.alloc (.cells #[.int .i64 0, .int .i64 0, .int .i64 0, .int .i64 0, .int .i64 10, .int .i64 20, .int .i64 20] 3)) fun e w' => e = .returned (.tuple #[.agg #[.int .i64 125, .int .i64 1], .int .i64 0]) ∧ Below W.heap.size W w' := by
 have H := westE_any (W.alloc (.cells (intsV yS).toArray 3)) x F 0 5 (some ⟨W.heap.size, 0, none⟩) 7 yS (by decide) (h.alloc _) (ints_lit W _)
 rw [hF] at H ⊢
 rw [westS_eq] at H
 exact H.mono fun e w' ⟨a, b⟩ => ⟨a, below_lit b⟩
theorem al_cut (W : World) (x : FV) (F : Fld) (hF : F = fldS) (h : FldAt W x F) : Calls Tryz.prog 37 #[x.val F, .slice (some ⟨W.heap.size, 0, none⟩) 7 7, .int .i64 0, .int .i64 126] (W.alloc (.cells #[.int .i64 0, .int .i64 0, .int .i64 0, .int .i64 0, .int .i64 10, .int .i64 20, .int .i64 20] 3)) fun e w' => e = .returned (.tuple #[.int .i64 5, .int .i64 0]) ∧ Below W.heap.size W w' := by
 have H := cutE_any (W.alloc (.cells (intsV yS).toArray 3)) x F 0 126 (some ⟨W.heap.size, 0, none⟩) 7 yS (by decide) (h.alloc _) (ints_lit W _)
 rw [hF] at H ⊢
 rw [cutS_eq] at H
 exact H.mono fun e w' ⟨a, b⟩ => ⟨a, below_lit b⟩
theorem al_shares (W : World) : Calls Tryz.prog 41 #[.int .i64 10, .slice (some ⟨W.heap.size, 0, none⟩) 3 3] (W.alloc (.cells #[.int .i64 1, .int .i64 1, .int .i64 1] 3)) fun e w' => LS [4, 3, 3] 0 e w' ∧ Below W.heap.size W w' := by
 have H := sharesE_any (W.alloc (.cells (intsV [1, 1, 1]).toArray 3)) 10 (some ⟨W.heap.size, 0, none⟩) 3 [1, 1, 1] (by simp) (ints_lit W _)
 rw [shS_eq] at H
 exact H.mono fun e w' ⟨a, b⟩ => ⟨ls_of a, below_lit b⟩
theorem al_ranked (W : World) (A B : Nat) (hA : A = W.heap.size) (hB : B = W.heap.size + 1) : Calls Tryz.prog 28 #[.int .i64 20, .slice (some ⟨A, 0, none⟩) 3 3, .slice (some ⟨B, 0, none⟩) 3 3] ((W.alloc (.cells #[.int .i64 6, .int .i64 6, .int .i64 4] 3)).alloc (.cells #[.int .i64 1, .int .i64 2, .int .i64 2] 3)) fun e w' => LS [6, 8, 6] 0 e w' ∧ Below W.heap.size W w' := by
 subst hA
 have e : B = (W.alloc (.cells (intsV [6, 6, 4]).toArray 3)).heap.size := by rw [hB]; simp
 rw [e]
 have H := rankedE_any ((W.alloc (.cells (intsV [6, 6, 4]).toArray 3)).alloc (.cells (intsV [1, 2, 2]).toArray 3)) 20 (some ⟨W.heap.size, 0, none⟩) (some ⟨(W.alloc (.cells (intsV [6, 6, 4]).toArray 3)).heap.size, 0, none⟩) 3 3 [6, 6, 4] [1, 2, 2] (by simp) (by simp) ((ints_lit W _).alloc _) (ints_lit _ _)
 rw [raS_eq] at H
 exact H.mono fun e w' ⟨a, b⟩ => ⟨ls_of a, below_lit2 b⟩
theorem al_stakes (W : World) : Calls Tryz.prog 30 #[.int .i64 110, .int .i64 100, .slice (some ⟨W.heap.size, 0, none⟩) 3 3] (W.alloc (.cells #[.int .i64 1, .int .i64 1, .int .i64 1] 3)) fun e w' => LS [106, 103, 100] 0 e w' ∧ Below W.heap.size W w' := by
 have H := stakesE_any (W.alloc (.cells (intsV [1, 1, 1]).toArray 3)) 110 100 (some ⟨W.heap.size, 0, none⟩) 3 [1, 1, 1] (by simp) (ints_lit W _)
 rw [stS_eq] at H
 exact H.mono fun e w' ⟨a, b⟩ => ⟨ls_of a, below_lit b⟩
theorem same_lit (W : World) (o : Option Addr) (c : Nat) (p l : List Int) (hp : Hid (p = l)) (h : Hid (IntsAt W o p)) (hl : l.length ≤ 1000) (n : Nat) (hn : l.length = n) :
 Calls Tryz.prog 32 #[.slice o p.length c, .slice (some ⟨W.heap.size, 0, none⟩) n n] (W.alloc (.cells (intsV l).toArray 3)) fun e w' => e = .returned (.bool true) ∧ Below W.heap.size W w' := by
 subst hn
 have e := hp.out
 have H := same_any (W.alloc (.cells (intsV l).toArray 3)) o c p (some ⟨W.heap.size, 0, none⟩) l.length l (by rw [e]; omega) (by omega) (h.out.alloc _) (ints_lit W l)
 rw [show decide (p = l) = true by simpa using e] at H
 refine H.mono fun e w' ⟨h1, h2⟩ => ⟨h1, ?_⟩
 subst h2
 exact (Below.refl _ _).alloc (Nat.le_refl _) _
set_option maxRecDepth 100000 in
set_option maxHeartbeats 16000000 in
theorem alive_any : AliveOk := by
 intro w
 go_enter Tryz.func22, Tryz.ntmps22
 go_wp2_with fail
 refine (fieldS_any _).mono ?_
 rintro e w0 ⟨⟨x, rfl, hF⟩, hb0⟩
 obtain ⟨F, HFE⟩ : ∃ F, Hid (F = fldS) := ⟨fldS, hidE rfl⟩
 rw [← HFE.out] at hF ⊢
 have B0 := hidE hb0
 have F0 := hidE hF
 clear hF hb0
 unfold FV.val FV.arr
 go_wp2_with fail
 refine (systemS_any _).mono ?_
 rintro e w1 ⟨⟨v, rfl, ho⟩, hb1⟩
 obtain ⟨o, c, rfl, hbs, _⟩ := boundsAt_of_out (l := sysS) ho
 obtain ⟨bs, HBE⟩ : ∃ bs, Hid (bs = sysS) := ⟨sysS, hidE rfl⟩
 rw [← HBE.out] at hbs ⊢
 have B1 := hidE (B0.out.trans (hb1.mono B0.out.size))
 have F1 := hidE (F0.out.below hb1)
 have S1 := hidE hbs
 clear ho hbs hb1 B0 F0
 go_upto_region 2 with fail
 obtain ⟨W0, hW⟩ : ∃ W, W = (w1.alloc (.cells (x.arr F) 46)).alloc (.cells #[.int .i64 7, .slice o bs.length c] 24) := ⟨_, rfl⟩
 rw [show (w1.alloc (.cells #[.slice x.aS F.sts.length x.cS, .slice x.aL F.lms.length x.cL, .slice x.aP F.prs.length x.cP, .slice x.aV F.vrs.length x.cV] 46)).alloc (.cells #[.int .i64 7, .slice o bs.length c] 24) = W0 from hW.symm]
 have BB0 : Hid (Below w.heap.size w W0) := hidE (by rw [hW]; exact (B1.out.alloc B1.out.size _).alloc (by have := B1.out.size; simp; omega) _)
 have FF0 : Hid (FldAt W0 x F) := hidE (by rw [hW]; exact (F1.out.alloc _).alloc _)
 have SS0 : Hid (BoundsAt W0 o bs) := hidE (by rw [hW]; exact (S1.out.alloc _).alloc _)
 have XF0 : Hid (W0.heap[w1.heap.size]? = some (.cells (x.arr F) 46 (0,0))) := hidE (by rw [hW, Below.heap_alloc _ _ _ (by simp)]; exact heap_alloc_new _ _)
 have XS0 : Hid (W0.heap[w1.heap.size + 1]? = some (.cells #[.int .i64 7, .slice o bs.length c] 24 (0,0))) := hidE (by rw [hW]; exact heap_alloc_at _ _ _ (by simp))
 clear hW B1 F1 S1
 have f0 : W0.cell? ⟨w1.heap.size, 0, none⟩ = some (.slice x.aS F.sts.length x.cS) := c_e XF0.out rfl
 have f1 : W0.cell? ⟨w1.heap.size, 1, none⟩ = some (.slice x.aL F.lms.length x.cL) := c_e XF0.out rfl
 have f2 : W0.cell? ⟨w1.heap.size, 2, none⟩ = some (.slice x.aP F.prs.length x.cP) := c_e XF0.out rfl
 have f3 : W0.cell? ⟨w1.heap.size, 3, none⟩ = some (.slice x.aV F.vrs.length x.cV) := c_e XF0.out rfl
 have HC := hidE (al_weights W0 x F HFE.out FF0.out)
 try unfold FV.val FV.arr at HC
 go_wp2_with fail
 refine HC.out.mono ?_
 rintro e W1 ⟨⟨p, EP, op, cp, rfl, LI⟩, hbx⟩
 clear HC f0 f1 f2 f3
 have hb : Below W0.heap.size W0 W1 := hbx
 have BB1 : Hid (Below w.heap.size w W1) := hidE (BB0.out.trans (hb.mono BB0.out.size))
 have FF1 : Hid (FldAt W1 x F) := hidE (FF0.out.below hb)
 have SS1 : Hid (BoundsAt W1 o bs) := hidE (SS0.out.below hb (Nat.le_refl _))
 have XF1 := hidE (blk_below hb (lt_of_block XF0.out) XF0.out)
 have XS1 := hidE (blk_below hb (lt_of_block XS0.out) XS0.out)
 clear hb BB0 FF0 SS0 XF0 XS0
 clear hbx
 have Lp1 := LI
 clear LI
 have f0 : W1.cell? ⟨w1.heap.size, 0, none⟩ = some (.slice x.aS F.sts.length x.cS) := c_e XF1.out rfl
 have f1 : W1.cell? ⟨w1.heap.size, 1, none⟩ = some (.slice x.aL F.lms.length x.cL) := c_e XF1.out rfl
 have f2 : W1.cell? ⟨w1.heap.size, 2, none⟩ = some (.slice x.aP F.prs.length x.cP) := c_e XF1.out rfl
 have f3 : W1.cell? ⟨w1.heap.size, 3, none⟩ = some (.slice x.aV F.vrs.length x.cV) := c_e XF1.out rfl
 have HC := hidE (al_area W1 x F HFE.out FF1.out)
 try unfold FV.val FV.arr at HC
 go_wp2_with fail
 refine HC.out.mono ?_
 rintro e W2 ⟨rfl, hbx⟩
 clear HC f0 f1 f2 f3
 have hb : Below W1.heap.size W1 W2 := hbx
 have BB2 : Hid (Below w.heap.size w W2) := hidE (BB1.out.trans (hb.mono BB1.out.size))
 have FF2 : Hid (FldAt W2 x F) := hidE (FF1.out.below hb)
 have SS2 : Hid (BoundsAt W2 o bs) := hidE (SS1.out.below hb (Nat.le_refl _))
 have XF2 := hidE (blk_below hb (lt_of_block XF1.out) XF1.out)
 have XS2 := hidE (blk_below hb (lt_of_block XS1.out) XS1.out)
 have Lp2 : Hid (IntsAt W2 op p) := hidE (Lp1.out.below hb (Nat.le_refl _))
 clear hb BB1 FF1 SS1 XF1 XS1 Lp1
 clear hbx
 have f0 : W2.cell? ⟨w1.heap.size + 1, 0, none⟩ = some (.int .i64 7) := c_e XS2.out rfl
 have f1 : W2.cell? ⟨w1.heap.size + 1, 1, none⟩ = some (.slice o bs.length c) := c_e XS2.out rfl
 have HC := hidE (al_greatest W2 o c bs HBE.out op cp p EP.out SS2.out Lp2.out)
 try unfold FV.val FV.arr at HC
 go_wp2_with fail
 refine HC.out.mono ?_
 rintro e W3 ⟨⟨q, EQ, gy, gF, ny, rfl, LI⟩, hbx⟩
 clear HC f0 f1
 have hb : Below W2.heap.size W2 W3 := hbx
 have BB3 : Hid (Below w.heap.size w W3) := hidE (BB2.out.trans (hb.mono BB2.out.size))
 have FF3 : Hid (FldAt W3 x F) := hidE (FF2.out.below hb)
 have SS3 : Hid (BoundsAt W3 o bs) := hidE (SS2.out.below hb (Nat.le_refl _))
 have XF3 := hidE (blk_below hb (lt_of_block XF2.out) XF2.out)
 have XS3 := hidE (blk_below hb (lt_of_block XS2.out) XS2.out)
 have Lp3 : Hid (IntsAt W3 op p) := hidE (Lp2.out.below hb (Nat.le_refl _))
 clear hb BB2 FF2 SS2 XF2 XS2 Lp2
 clear hbx
 have Lq3 := LI
 clear LI
 have f0 : W3.cell? ⟨w1.heap.size + 1, 0, none⟩ = some (.int .i64 7) := c_e XS3.out rfl
 have f1 : W3.cell? ⟨w1.heap.size + 1, 1, none⟩ = some (.slice o bs.length c) := c_e XS3.out rfl
 have HC := hidE (al_least W3 o c bs HBE.out op cp p EP.out SS3.out Lp3.out)
 try unfold FV.val FV.arr at HC
 go_wp2_with fail
 refine HC.out.mono ?_
 rintro e W4 ⟨⟨q2, EQ2, gy2, gF2, ny2, rfl, LI⟩, hbx⟩
 clear HC f0 f1
 have hb : Below W3.heap.size W3 W4 := hbx
 have BB4 : Hid (Below w.heap.size w W4) := hidE (BB3.out.trans (hb.mono BB3.out.size))
 have FF4 : Hid (FldAt W4 x F) := hidE (FF3.out.below hb)
 have SS4 : Hid (BoundsAt W4 o bs) := hidE (SS3.out.below hb (Nat.le_refl _))
 have XF4 := hidE (blk_below hb (lt_of_block XF3.out) XF3.out)
 have XS4 := hidE (blk_below hb (lt_of_block XS3.out) XS3.out)
 have Lp4 : Hid (IntsAt W4 op p) := hidE (Lp3.out.below hb (Nat.le_refl _))
 have Lq4 : Hid (IntsAt W4 (some ⟨gF, 0, none⟩) q) := hidE (Lq3.out.below hb (Nat.le_refl _))
 clear hb BB3 FF3 SS3 XF3 XS3 Lp3 Lq3
 clear hbx LI EQ2
 have f0 : W4.cell? ⟨w1.heap.size + 1, 0, none⟩ = some (.int .i64 7) := c_e XS4.out rfl
 have f1 : W4.cell? ⟨w1.heap.size + 1, 1, none⟩ = some (.slice o bs.length c) := c_e XS4.out rfl
 have HC := hidE (al_records W4 o c bs HBE.out (some ⟨gF, 0, none⟩) q.length q EQ.out SS4.out Lq4.out)
 try unfold FV.val FV.arr at HC
 go_wp2_with fail
 refine HC.out.mono ?_
 rintro e W5 ⟨⟨r, ER, or, cr, rfl, LI⟩, hbx⟩
 clear HC f0 f1
 have hb : Below W4.heap.size W4 W5 := hbx
 have BB5 : Hid (Below w.heap.size w W5) := hidE (BB4.out.trans (hb.mono BB4.out.size))
 have FF5 : Hid (FldAt W5 x F) := hidE (FF4.out.below hb)
 have SS5 : Hid (BoundsAt W5 o bs) := hidE (SS4.out.below hb (Nat.le_refl _))
 have XF5 := hidE (blk_below hb (lt_of_block XF4.out) XF4.out)
 have XS5 := hidE (blk_below hb (lt_of_block XS4.out) XS4.out)
 have Lp5 : Hid (IntsAt W5 op p) := hidE (Lp4.out.below hb (Nat.le_refl _))
 have Lq5 : Hid (IntsAt W5 (some ⟨gF, 0, none⟩) q) := hidE (Lq4.out.below hb (Nat.le_refl _))
 clear hb BB4 FF4 SS4 XF4 XS4 Lp4 Lq4
 clear hbx
 have Lr5 := LI
 clear LI
 have f0 : W5.cell? ⟨w1.heap.size, 0, none⟩ = some (.slice x.aS F.sts.length x.cS) := c_e XF5.out rfl
 have f1 : W5.cell? ⟨w1.heap.size, 1, none⟩ = some (.slice x.aL F.lms.length x.cL) := c_e XF5.out rfl
 have f2 : W5.cell? ⟨w1.heap.size, 2, none⟩ = some (.slice x.aP F.prs.length x.cP) := c_e XF5.out rfl
 have f3 : W5.cell? ⟨w1.heap.size, 3, none⟩ = some (.slice x.aV F.vrs.length x.cV) := c_e XF5.out rfl
 have HC := hidE (al_west W5 x F HFE.out FF5.out)
 try unfold FV.val FV.arr at HC
 go_wp2_with fail
 refine HC.out.mono ?_
 rintro e W6 ⟨rfl, hbx⟩
 clear HC f0 f1 f2 f3
 have hb : Below W5.heap.size W5 W6 := hbx
 have BB6 : Hid (Below w.heap.size w W6) := hidE (BB5.out.trans (hb.mono BB5.out.size))
 have FF6 : Hid (FldAt W6 x F) := hidE (FF5.out.below hb)
 have SS6 : Hid (BoundsAt W6 o bs) := hidE (SS5.out.below hb (Nat.le_refl _))
 have XF6 := hidE (blk_below hb (lt_of_block XF5.out) XF5.out)
 have XS6 := hidE (blk_below hb (lt_of_block XS5.out) XS5.out)
 have Lp6 : Hid (IntsAt W6 op p) := hidE (Lp5.out.below hb (Nat.le_refl _))
 have Lq6 : Hid (IntsAt W6 (some ⟨gF, 0, none⟩) q) := hidE (Lq5.out.below hb (Nat.le_refl _))
 have Lr6 : Hid (IntsAt W6 or r) := hidE (Lr5.out.below hb (Nat.le_refl _))
 clear hb BB5 FF5 SS5 XF5 XS5 Lp5 Lq5 Lr5
 clear hbx
 go_upto_region 8 with fail
 obtain ⟨W7, hW⟩ : ∃ W, W = W6.alloc (.cells #[.int .i64 125, .int .i64 1] 49) := ⟨_, rfl⟩
 rw [← hW]
 have hxw : W7.heap[W6.heap.size]? = some (.cells #[.int .i64 125, .int .i64 1] 49 (0,0)) := by rw [hW]; exact heap_alloc_new _ _
 have hb : Below W6.heap.size W6 W7 := by rw [hW]; exact (Below.refl _ _).alloc (Nat.le_refl _) _
 have BB7 : Hid (Below w.heap.size w W7) := hidE (BB6.out.trans (hb.mono BB6.out.size))
 have FF7 : Hid (FldAt W7 x F) := hidE (FF6.out.below hb)
 have SS7 : Hid (BoundsAt W7 o bs) := hidE (SS6.out.below hb (Nat.le_refl _))
 have XF7 := hidE (blk_below hb (lt_of_block XF6.out) XF6.out)
 have XS7 := hidE (blk_below hb (lt_of_block XS6.out) XS6.out)
 have Lp7 : Hid (IntsAt W7 op p) := hidE (Lp6.out.below hb (Nat.le_refl _))
 have Lq7 : Hid (IntsAt W7 (some ⟨gF, 0, none⟩) q) := hidE (Lq6.out.below hb (Nat.le_refl _))
 have Lr7 : Hid (IntsAt W7 or r) := hidE (Lr6.out.below hb (Nat.le_refl _))
 clear hb BB6 FF6 SS6 XF6 XS6 Lp6 Lq6 Lr6
 have XW7 := hidE hxw
 clear hW hxw
 have f0 : W7.cell? ⟨w1.heap.size, 0, none⟩ = some (.slice x.aS F.sts.length x.cS) := c_e XF7.out rfl
 have f1 : W7.cell? ⟨w1.heap.size, 1, none⟩ = some (.slice x.aL F.lms.length x.cL) := c_e XF7.out rfl
 have f2 : W7.cell? ⟨w1.heap.size, 2, none⟩ = some (.slice x.aP F.prs.length x.cP) := c_e XF7.out rfl
 have f3 : W7.cell? ⟨w1.heap.size, 3, none⟩ = some (.slice x.aV F.vrs.length x.cV) := c_e XF7.out rfl
 have HC := hidE (al_cut W7 x F HFE.out FF7.out)
 try unfold FV.val FV.arr at HC
 go_wp2_with fail
 refine HC.out.mono ?_
 rintro e W8 ⟨rfl, hbx⟩
 clear HC f0 f1 f2 f3
 have hb : Below W7.heap.size W7 W8 := hbx
 have BB8 : Hid (Below w.heap.size w W8) := hidE (BB7.out.trans (hb.mono BB7.out.size))
 have FF8 : Hid (FldAt W8 x F) := hidE (FF7.out.below hb)
 have SS8 : Hid (BoundsAt W8 o bs) := hidE (SS7.out.below hb (Nat.le_refl _))
 have XF8 := hidE (blk_below hb (lt_of_block XF7.out) XF7.out)
 have XS8 := hidE (blk_below hb (lt_of_block XS7.out) XS7.out)
 have Lp8 : Hid (IntsAt W8 op p) := hidE (Lp7.out.below hb (Nat.le_refl _))
 have Lq8 : Hid (IntsAt W8 (some ⟨gF, 0, none⟩) q) := hidE (Lq7.out.below hb (Nat.le_refl _))
 have Lr8 : Hid (IntsAt W8 or r) := hidE (Lr7.out.below hb (Nat.le_refl _))
 have XW8 := hidE (blk_below hb (lt_of_block XW7.out) XW7.out)
 clear hb BB7 FF7 SS7 XF7 XS7 Lp7 Lq7 Lr7 XW7
 clear hbx
 have HC := hidE (al_shares W8)
 try unfold FV.val FV.arr at HC
 go_wp2_with fail
 refine HC.out.mono ?_
 rintro e W9 ⟨⟨s, ES, os, cs, rfl, LI⟩, hbx⟩
 clear HC
 have hb : Below W8.heap.size W8 W9 := hbx
 have BB9 : Hid (Below w.heap.size w W9) := hidE (BB8.out.trans (hb.mono BB8.out.size))
 have FF9 : Hid (FldAt W9 x F) := hidE (FF8.out.below hb)
 have SS9 : Hid (BoundsAt W9 o bs) := hidE (SS8.out.below hb (Nat.le_refl _))
 have XF9 := hidE (blk_below hb (lt_of_block XF8.out) XF8.out)
 have XS9 := hidE (blk_below hb (lt_of_block XS8.out) XS8.out)
 have Lp9 : Hid (IntsAt W9 op p) := hidE (Lp8.out.below hb (Nat.le_refl _))
 have Lq9 : Hid (IntsAt W9 (some ⟨gF, 0, none⟩) q) := hidE (Lq8.out.below hb (Nat.le_refl _))
 have Lr9 : Hid (IntsAt W9 or r) := hidE (Lr8.out.below hb (Nat.le_refl _))
 have XW9 := hidE (blk_below hb (lt_of_block XW8.out) XW8.out)
 clear hb BB8 FF8 SS8 XF8 XS8 Lp8 Lq8 Lr8 XW8
 clear hbx
 have Ls9 := LI
 clear LI
 have HR := hidE (fun A B hA hB => al_ranked W9 A B hA hB)
 go_wp2_with fail
 refine (HR.out _ _ rfl (by simp)).mono ?_
 rintro e W10 ⟨⟨t, ET, ot, ct, rfl, LI⟩, hbx⟩
 clear HR
 have hb : Below W9.heap.size W9 W10 := hbx
 have BB10 : Hid (Below w.heap.size w W10) := hidE (BB9.out.trans (hb.mono BB9.out.size))
 have FF10 : Hid (FldAt W10 x F) := hidE (FF9.out.below hb)
 have SS10 : Hid (BoundsAt W10 o bs) := hidE (SS9.out.below hb (Nat.le_refl _))
 have XF10 := hidE (blk_below hb (lt_of_block XF9.out) XF9.out)
 have XS10 := hidE (blk_below hb (lt_of_block XS9.out) XS9.out)
 have Lp10 : Hid (IntsAt W10 op p) := hidE (Lp9.out.below hb (Nat.le_refl _))
 have Lq10 : Hid (IntsAt W10 (some ⟨gF, 0, none⟩) q) := hidE (Lq9.out.below hb (Nat.le_refl _))
 have Lr10 : Hid (IntsAt W10 or r) := hidE (Lr9.out.below hb (Nat.le_refl _))
 have Ls10 : Hid (IntsAt W10 os s) := hidE (Ls9.out.below hb (Nat.le_refl _))
 have XW10 := hidE (blk_below hb (lt_of_block XW9.out) XW9.out)
 clear hb BB9 FF9 SS9 XF9 XS9 Lp9 Lq9 Lr9 Ls9 XW9
 clear hbx
 have Lt10 := LI
 clear LI
 have HC := hidE (al_stakes W10)
 try unfold FV.val FV.arr at HC
 go_wp2_with fail
 refine HC.out.mono ?_
 rintro e W11 ⟨⟨u, EU, ou, cu, rfl, LI⟩, hbx⟩
 clear HC
 have hb : Below W10.heap.size W10 W11 := hbx
 have BB11 : Hid (Below w.heap.size w W11) := hidE (BB10.out.trans (hb.mono BB10.out.size))
 have FF11 : Hid (FldAt W11 x F) := hidE (FF10.out.below hb)
 have SS11 : Hid (BoundsAt W11 o bs) := hidE (SS10.out.below hb (Nat.le_refl _))
 have XF11 := hidE (blk_below hb (lt_of_block XF10.out) XF10.out)
 have XS11 := hidE (blk_below hb (lt_of_block XS10.out) XS10.out)
 have Lp11 : Hid (IntsAt W11 op p) := hidE (Lp10.out.below hb (Nat.le_refl _))
 have Lq11 : Hid (IntsAt W11 (some ⟨gF, 0, none⟩) q) := hidE (Lq10.out.below hb (Nat.le_refl _))
 have Lr11 : Hid (IntsAt W11 or r) := hidE (Lr10.out.below hb (Nat.le_refl _))
 have Ls11 : Hid (IntsAt W11 os s) := hidE (Ls10.out.below hb (Nat.le_refl _))
 have Lt11 : Hid (IntsAt W11 ot t) := hidE (Lt10.out.below hb (Nat.le_refl _))
 have XW11 := hidE (blk_below hb (lt_of_block XW10.out) XW10.out)
 clear hb BB10 FF10 SS10 XF10 XS10 Lp10 Lq10 Lr10 Ls10 Lt10 XW10
 clear hbx
 have Lu11 := LI
 clear LI
 have HC := hidE (same_lit W11 op cp p wS EP Lp11 (by decide) 7 rfl)
 go_wp2_with fail
 refine HC.out.mono ?_
 rintro e W12 ⟨rfl, hbx⟩
 clear HC
 have hb : Below W11.heap.size W11 W12 := hbx
 have BB12 : Hid (Below w.heap.size w W12) := hidE (BB11.out.trans (hb.mono BB11.out.size))
 have FF12 : Hid (FldAt W12 x F) := hidE (FF11.out.below hb)
 have SS12 : Hid (BoundsAt W12 o bs) := hidE (SS11.out.below hb (Nat.le_refl _))
 have XF12 := hidE (blk_below hb (lt_of_block XF11.out) XF11.out)
 have XS12 := hidE (blk_below hb (lt_of_block XS11.out) XS11.out)
 have Lp12 : Hid (IntsAt W12 op p) := hidE (Lp11.out.below hb (Nat.le_refl _))
 have Lq12 : Hid (IntsAt W12 (some ⟨gF, 0, none⟩) q) := hidE (Lq11.out.below hb (Nat.le_refl _))
 have Lr12 : Hid (IntsAt W12 or r) := hidE (Lr11.out.below hb (Nat.le_refl _))
 have Ls12 : Hid (IntsAt W12 os s) := hidE (Ls11.out.below hb (Nat.le_refl _))
 have Lt12 : Hid (IntsAt W12 ot t) := hidE (Lt11.out.below hb (Nat.le_refl _))
 have Lu12 : Hid (IntsAt W12 ou u) := hidE (Lu11.out.below hb (Nat.le_refl _))
 have XW12 := hidE (blk_below hb (lt_of_block XW11.out) XW11.out)
 clear hb BB11 FF11 SS11 XF11 XS11 Lp11 Lq11 Lr11 Ls11 Lt11 Lu11 XW11
 clear hbx
 have HC := hidE (same_lit W12 or cr r [2] ER Lr12 (by decide) 1 rfl)
 go_wp2_with fail
 refine HC.out.mono ?_
 rintro e W13 ⟨rfl, hbx⟩
 clear HC
 have hb : Below W12.heap.size W12 W13 := hbx
 have BB13 : Hid (Below w.heap.size w W13) := hidE (BB12.out.trans (hb.mono BB12.out.size))
 have FF13 : Hid (FldAt W13 x F) := hidE (FF12.out.below hb)
 have SS13 : Hid (BoundsAt W13 o bs) := hidE (SS12.out.below hb (Nat.le_refl _))
 have XF13 := hidE (blk_below hb (lt_of_block XF12.out) XF12.out)
 have XS13 := hidE (blk_below hb (lt_of_block XS12.out) XS12.out)
 have Lp13 : Hid (IntsAt W13 op p) := hidE (Lp12.out.below hb (Nat.le_refl _))
 have Lq13 : Hid (IntsAt W13 (some ⟨gF, 0, none⟩) q) := hidE (Lq12.out.below hb (Nat.le_refl _))
 have Lr13 : Hid (IntsAt W13 or r) := hidE (Lr12.out.below hb (Nat.le_refl _))
 have Ls13 : Hid (IntsAt W13 os s) := hidE (Ls12.out.below hb (Nat.le_refl _))
 have Lt13 : Hid (IntsAt W13 ot t) := hidE (Lt12.out.below hb (Nat.le_refl _))
 have Lu13 : Hid (IntsAt W13 ou u) := hidE (Lu12.out.below hb (Nat.le_refl _))
 have XW13 := hidE (blk_below hb (lt_of_block XW12.out) XW12.out)
 clear hb BB12 FF12 SS12 XF12 XS12 Lp12 Lq12 Lr12 Ls12 Lt12 Lu12 XW12
 clear hbx
 have HC := hidE (same_lit W13 os cs s [4, 3, 3] ES Ls13 (by decide) 3 rfl)
 go_wp2_with fail
 refine HC.out.mono ?_
 rintro e W14 ⟨rfl, hbx⟩
 clear HC
 have hb : Below W13.heap.size W13 W14 := hbx
 have BB14 : Hid (Below w.heap.size w W14) := hidE (BB13.out.trans (hb.mono BB13.out.size))
 have FF14 : Hid (FldAt W14 x F) := hidE (FF13.out.below hb)
 have SS14 : Hid (BoundsAt W14 o bs) := hidE (SS13.out.below hb (Nat.le_refl _))
 have XF14 := hidE (blk_below hb (lt_of_block XF13.out) XF13.out)
 have XS14 := hidE (blk_below hb (lt_of_block XS13.out) XS13.out)
 have Lp14 : Hid (IntsAt W14 op p) := hidE (Lp13.out.below hb (Nat.le_refl _))
 have Lq14 : Hid (IntsAt W14 (some ⟨gF, 0, none⟩) q) := hidE (Lq13.out.below hb (Nat.le_refl _))
 have Lr14 : Hid (IntsAt W14 or r) := hidE (Lr13.out.below hb (Nat.le_refl _))
 have Ls14 : Hid (IntsAt W14 os s) := hidE (Ls13.out.below hb (Nat.le_refl _))
 have Lt14 : Hid (IntsAt W14 ot t) := hidE (Lt13.out.below hb (Nat.le_refl _))
 have Lu14 : Hid (IntsAt W14 ou u) := hidE (Lu13.out.below hb (Nat.le_refl _))
 have XW14 := hidE (blk_below hb (lt_of_block XW13.out) XW13.out)
 clear hb BB13 FF13 SS13 XF13 XS13 Lp13 Lq13 Lr13 Ls13 Lt13 Lu13 XW13
 clear hbx
 have HC := hidE (same_lit W14 ot ct t [6, 8, 6] ET Lt14 (by decide) 3 rfl)
 go_wp2_with fail
 refine HC.out.mono ?_
 rintro e W15 ⟨rfl, hbx⟩
 clear HC
 have hb : Below W14.heap.size W14 W15 := hbx
 have BB15 : Hid (Below w.heap.size w W15) := hidE (BB14.out.trans (hb.mono BB14.out.size))
 have FF15 : Hid (FldAt W15 x F) := hidE (FF14.out.below hb)
 have SS15 : Hid (BoundsAt W15 o bs) := hidE (SS14.out.below hb (Nat.le_refl _))
 have XF15 := hidE (blk_below hb (lt_of_block XF14.out) XF14.out)
 have XS15 := hidE (blk_below hb (lt_of_block XS14.out) XS14.out)
 have Lp15 : Hid (IntsAt W15 op p) := hidE (Lp14.out.below hb (Nat.le_refl _))
 have Lq15 : Hid (IntsAt W15 (some ⟨gF, 0, none⟩) q) := hidE (Lq14.out.below hb (Nat.le_refl _))
 have Lr15 : Hid (IntsAt W15 or r) := hidE (Lr14.out.below hb (Nat.le_refl _))
 have Ls15 : Hid (IntsAt W15 os s) := hidE (Ls14.out.below hb (Nat.le_refl _))
 have Lt15 : Hid (IntsAt W15 ot t) := hidE (Lt14.out.below hb (Nat.le_refl _))
 have Lu15 : Hid (IntsAt W15 ou u) := hidE (Lu14.out.below hb (Nat.le_refl _))
 have XW15 := hidE (blk_below hb (lt_of_block XW14.out) XW14.out)
 clear hb BB14 FF14 SS14 XF14 XS14 Lp14 Lq14 Lr14 Ls14 Lt14 Lu14 XW14
 clear hbx
 have HC := hidE (same_lit W15 ou cu u [106, 103, 100] EU Lu15 (by decide) 3 rfl)
 go_wp2_with fail
 refine HC.out.mono ?_
 rintro e W16 ⟨rfl, hbx⟩
 clear HC
 have hb : Below W15.heap.size W15 W16 := hbx
 have BB16 : Hid (Below w.heap.size w W16) := hidE (BB15.out.trans (hb.mono BB15.out.size))
 have FF16 : Hid (FldAt W16 x F) := hidE (FF15.out.below hb)
 have SS16 : Hid (BoundsAt W16 o bs) := hidE (SS15.out.below hb (Nat.le_refl _))
 have XF16 := hidE (blk_below hb (lt_of_block XF15.out) XF15.out)
 have XS16 := hidE (blk_below hb (lt_of_block XS15.out) XS15.out)
 have Lp16 : Hid (IntsAt W16 op p) := hidE (Lp15.out.below hb (Nat.le_refl _))
 have Lq16 : Hid (IntsAt W16 (some ⟨gF, 0, none⟩) q) := hidE (Lq15.out.below hb (Nat.le_refl _))
 have Lr16 : Hid (IntsAt W16 or r) := hidE (Lr15.out.below hb (Nat.le_refl _))
 have Ls16 : Hid (IntsAt W16 os s) := hidE (Ls15.out.below hb (Nat.le_refl _))
 have Lt16 : Hid (IntsAt W16 ot t) := hidE (Lt15.out.below hb (Nat.le_refl _))
 have Lu16 : Hid (IntsAt W16 ou u) := hidE (Lu15.out.below hb (Nat.le_refl _))
 have XW16 := hidE (blk_below hb (lt_of_block XW15.out) XW15.out)
 clear hb BB15 FF15 SS15 XF15 XS15 Lp15 Lq15 Lr15 Ls15 Lt15 Lu15 XW15
 clear hbx
 have f0 : W16.cell? ⟨W6.heap.size, 0, none⟩ = some (.int .i64 125) := c_e XW16.out rfl
 have f1 : W16.cell? ⟨W6.heap.size, 1, none⟩ = some (.int .i64 1) := c_e XW16.out rfl
 go_wp2_with fail
 go_ret
 exact ⟨rfl, BB16.out⟩
end Go.Proofs.YthjmkmjojlfejaaGreat
namespace Go.Proofs.YthjmkmjojlfejaaGreat
open Go Go.ChangeShapes Go.WideShapes Go.ChangeAt Go.RowKit Go.Joins Go.Deep
theorem Tryz.laidOut : laidOutB Tryz.prog = true := by kernel_rfl
theorem Tryz.own : ownKnob Tryz.prog.godebug = none := by kernel_rfl
theorem and2 {a b : Bool} (ha : a = true) (hb : b = true) : (a && b) = true := by rw [ha, hb]; rfl
theorem Tryz.fact1 : laidOutB Tryz.prog = true := by kernel_rfl
theorem Tryz.fact2 : mapsRowed Tryz.prog = true := by kernel_rfl
theorem Tryz.fact6 : (Tryz.prog.stops == []) = true := by kernel_rfl
theorem Tryz.fact8 : (Tryz.prog.stopKnobs == []) = true := by kernel_rfl
theorem Tryz.fact22 : Tryz.prog.plainKeys = true := by kernel_rfl
theorem Tryz.fact24 : Tryz.prog.stopsHeard = true := by kernel_rfl
set_option maxRecDepth 100000 in
theorem Tryz.head : ∃ l : List Char, Tryz.prog.initOrder = String.ofList l ∧ (stripLifts liftWords (behindMainWord (wordsSigns l))).1 = [] ∧ ((stripLifts liftWords (behindMainWord (wordsSigns l))).2.head? == some "cut".toList) = true ∧
 (match behindMainWord (wordsSigns l) with | c :: _ => (c == "gc".toList || c == "spec".toList) = false ∧ (c == "cut".toList) = true ∧ (some c == some "carried".toList) = false | [] => False) := by
 unfold Tryz.prog Tryz.progTables
 dsimp only
 refine ⟨_, rfl, ?_, ?_, ?_⟩
 ·kernel_rfl
 ·kernel_rfl
 ·exact ⟨by kernel_rfl, by kernel_rfl, by kernel_rfl⟩
theorem Tryz.laysLater : Tryz.prog.laysLater = false := by kernel_rfl
theorem Tryz.bearsReflect : Tryz.prog.bearsReflect = false := by kernel_rfl
theorem Tryz.doorFits : Tryz.prog.doorFits [] = true := by kernel_rfl
def HeadCut (P : Program) : Prop := ∃ l : List Char, P.initOrder = String.ofList l ∧ (stripLifts liftWords (behindMainWord (wordsSigns l))).1 = [] ∧ ((stripLifts liftWords (behindMainWord (wordsSigns l))).2.head? == some "cut".toList) = true ∧
 (match behindMainWord (wordsSigns l) with | c :: _ => (c == "gc".toList || c == "spec".toList) = false ∧ (c == "cut".toList) = true ∧ (some c == some "carried".toList) = false | [] => False)
theorem headLifts_of {P : Program} (h : HeadCut P) : P.headLifts = [] := by
 obtain ⟨l, hl, h1, h2, h3⟩ := h
 unfold Program.headLifts
 rw [hl, String.toList_ofList]
 simp only [h1, ite_self]
theorem mayEnter_of {P : Program} (h : HeadCut P) (g1 : P.laysLater = false) (g2 : P.bearsReflect = false) (g3 : P.doorFits [] = true) : P.mayEnter = true := by
 obtain ⟨l, hl, h1, h2, h3⟩ := h
 unfold Program.mayEnter
 rw [hl, String.toList_ofList]
 cases hw : behindMainWord (wordsSigns l) with
 | nil => rw [hw] at h3; exact h3.elim
 | cons c rest =>
   rw [hw] at h1 h2 h3
   simp only [h1, h2, g1, g2, g3]
   simp
theorem liftsFinal_of {P : Program} (h : HeadCut P) : P.liftsFinal = false := by
 have hh := headLifts_of h
 obtain ⟨l, hl, h1, h2, h3⟩ := h
 unfold Program.liftsFinal
 rw [hh, hl, String.toList_ofList]
 cases hw : behindMainWord (wordsSigns l) with
 | nil => rw [hw] at h3; exact h3.elim
 | cons c rest =>
   rw [hw] at h3
   simp only [List.head?_cons, h3.2.2]
   rfl
theorem make_of {P : Program} (h : HeadCut P) : P.make = some .cut := by
 obtain ⟨l, hl, h1, h2, h3⟩ := h
 unfold Program.make
 rw [hl, String.toList_ofList]
 cases hw : behindMainWord (wordsSigns l) with
 | nil => rw [hw] at h3; exact h3.elim
 | cons c rest =>
   rw [hw] at h3
   simp only [h3.1, h3.2.1]
   rfl
theorem Tryz.headCut : HeadCut Tryz.prog := Tryz.head
theorem Tryz.fact25 : Tryz.prog.mayEnter = true := mayEnter_of Tryz.headCut Tryz.laysLater Tryz.bearsReflect Tryz.doorFits
theorem Tryz.fact26 : Tryz.prog.liftsFinal = false := liftsFinal_of Tryz.headCut
theorem Tryz.fact27 : Tryz.prog.make = some .cut := make_of Tryz.headCut
def ArgOk (t : TypeId) : Prop := Tryz.prog.readableRec t = true ∧ t < Tryz.prog.types.size
theorem argOk3 : ArgOk 3 := ⟨by kernel_rfl, of_decide_eq_true (by kernel_rfl)⟩
section
variable {H : Type} {enc : TypeId × Value → H}
theorem trodAll_below {W W' : World} (hb : Below W.heap.size W W') : ∀ (ts : List TypeId) (vs : List Value) (ds : List (DataW H)) (ps : List MemPlace), (∀ t ∈ ts, ArgOk t) → DataW.TrodAll enc Tryz.prog W 0 (fun _ => true) true ts vs ds ps →
 (∀ x ∈ ps, x.block < W.heap.size) → DataW.TrodAll enc Tryz.prog W' 0 (fun b => decide (b < W.heap.size)) true ts vs ds ps
 | [], vs, ds, ps, _, h, _ => by
   obtain ⟨rfl, rfl, rfl⟩ := trodAll_nil h
   exact trodAll_mk0
 | t :: ts, vs, ds, ps, hT, h, hs => by
   obtain ⟨v, vs', d, ds', p, q, rfl, rfl, rfl, h1, h2⟩ := trodAll_cons h
   have ht := hT t (List.mem_cons_self ..)
   exact trodAll_cons_mk (Below.trod Tryz.laidOut ht.1 ht.2 h1 hb (fun x hx => hs x (List.mem_append_left _ hx))) (trodAll_below hb ts vs' ds' q (fun x hx => hT x (List.mem_cons_of_mem _ hx)) h2 (fun x hx => hs x (List.mem_append_right _ hx)))
theorem law_post {f : Func} {s : ChangeSpec} {W W' : World} {args : Array Value} {ds gs : List (DataW H)} {before : List MemPlace}
 (hW : DataW.Whole enc Tryz.prog f.params.toList s.vars false W args.toList ds gs before) (hb : Below W.heap.size W W') (hrt : f.resultTypes = #[4])
 (hts : ∀ t ∈ f.params.toList, ArgOk t) (hsv : s.vars = []) (hfn : s.fn H (ds ++ []) = { results := [.lit (.bool true)], args := ds }) :
 s.post enc Tryz.prog f false true false false W args (.bool true) W' := by
 have hW' := hW
 obtain ⟨p, q, hA, hV, rfl, hfz, hnd⟩ := hW
 have hV' := hV
 rw [hsv] at hV'
 obtain ⟨rfl, rfl⟩ := trodVars_none hV'
 have hlt : ∀ x ∈ p, x.block < W.heap.size := fun x hx => by
  have := hW'.lt x
  exact this (List.mem_append_left _ hx)
 refine ⟨ds, [], p ++ [], [], p, [], hW', ?_, ?_, ?_, hb.frame _, fun h => by cases h⟩
 ·rw [hfn, hrt]
  exact trodAll_cons_mk (shut_bool Tryz.underlying4 _) trodAll_mk0
 ·rw [hfn]
  exact trodAll_below hb _ _ _ _ hts hA hlt
 ·rw [hfn, hsv]
  rfl
theorem list_of {α : Type} {p : Nat → α → Prop} : ∀ n, (∀ i, i < n → ∃ x, p i x) → ∃ l : List α, l.length = n ∧ ∀ i (h : i < l.length), p i l[i]
 | 0, _ => ⟨[], rfl, fun i h => by simp at h⟩
 | n + 1, h => by
   obtain ⟨l, hl, hp⟩ := list_of n (fun i hi => h i (by omega))
   obtain ⟨x, hx⟩ := h n (by omega)
   refine ⟨l ++ [x], by simp [hl], fun i hi => ?_⟩
   by_cases e : i < l.length
   ·rw [List.getElem_append_left e]; exact hp i e
   ·have e2 : i = n := by simp at hi; omega
    subst e2
    rw [List.getElem_append_right (by omega)]
    simpa [hl] using hx
theorem cell_plain {w : World} {a : Addr} {v : Value} (h : w.cell? a = some v) : a.spot = none ∧ a.block < w.heap.size := by
 refine ⟨?_, ?_⟩
 ·cases hsp : a.spot with
  | none => rfl
  | some s =>
    simp only [World.cell?] at h
    split at h
    ·simp [hsp] at h
    ·cases h
 ·apply Classical.byContradiction
  intro hn
  have : w.heap[a.block]? = none := Array.getElem?_eq_none (by omega)
  simp [World.cell?, this] at h
theorem add_plain {b o i : Nat} : (⟨b, o, none⟩ : Addr).add i = ⟨b, o + i, none⟩ := by
 unfold Addr.add
 split <;> simp_all
theorem int_cell {W : World} {n : Nat} {v : Value} {y : DataW H × List MemPlace} (h : DataW.trod enc Tryz.prog W 0 (fun _ => true) true n 3 [v] = some y) : ∃ k : Int, v = .int .i64 k ∧ i64ok k := by
 obtain ⟨k, h1, _, h2⟩ := DataW.trod_int Tryz.underlying3 h
 refine ⟨k, by simpa using h1, ?_⟩
 have : IntKind.min .i64 ≤ k ∧ k ≤ IntKind.max .i64 := by simpa [Lit.wf] using h2
 simpa [i64ok, IntKind.min, IntKind.max, IntKind.signed, IntKind.bits] using this
theorem ints_trod {W : World} {n : Nat} {cs : List Value} {x : DataW H × List MemPlace} (h : DataW.trod enc Tryz.prog W 0 (fun _ => true) true n 25 cs = some x) :
 ∃ (a : Option Addr) (cap : Nat) (l : List Int), cs = [.slice a l.length cap] ∧ IntsAt W a l ∧ SliceOk a l.length cap ∧ l.length ≤ 9223372036854775807 ∧ ∀ x ∈ l, i64ok x := by
 have c3 : Tryz.prog.cellsOf 3 = 1 := by kernel_rfl
 rcases open_slice1 Tryz.underlying25 c3 h with ⟨h1, _⟩ | ⟨a, len, cap, m, n', V, D, Pl, hcs, _, hl, hm, hmm, _, hx⟩
 ·exact ⟨none, 0, [], h1, .inl rfl, fun _ => ⟨rfl, rfl⟩, by simp, by simp⟩
 ·have hmm' : m = cap := hmm
  obtain ⟨l, hll, hlp⟩ := list_of (p := fun i (k : Int) => W.cell? (a.add i) = some (.int .i64 k) ∧ i64ok k) len (fun i hi => by
   obtain ⟨h1, h2⟩ := hx i (by omega)
   obtain ⟨k, hk, hok⟩ := int_cell h2
   exact ⟨k, by rw [h1, hk], hok⟩)
  have hm2 : cap ≤ 9223372036854775807 := hm
  refine ⟨some a, cap, l, by rw [hcs, hll], ?_, (fun e => by cases e), by omega, fun x hx => ?_⟩
  ·by_cases h0 : len = 0
   ·exact .inl (List.length_eq_zero_iff.1 (by omega))
   ·have z := (hlp 0 (by omega)).1
    have ha : a.spot = none := by
     have := (cell_plain z).1
     unfold Addr.add at this
     simpa using this
    obtain ⟨b, off, sp⟩ := a
    simp only at ha
    subst ha
    refine .inr ⟨b, off, rfl, ?_, fun i hi => ?_⟩
    ·have := (cell_plain z).2
     rw [add_plain] at this; exact this
    ·have := (hlp i hi).1
     rw [add_plain] at this; exact this
  ·obtain ⟨i, hi, rfl⟩ := List.getElem_of_mem hx
   exact (hlp i hi).2
set_option maxRecDepth 100000 in
theorem open_num {b0 : Nat} {W : World} {v : Value} {d : DataW H} {p : List MemPlace} (hv : Value.okWide Tryz.prog W .any b0 3 v) (h : DataW.Trod enc Tryz.prog W 0 (fun _ => true) true 3 v d p) : ∃ n : Int, v = .int .i64 n ∧ i64ok n := by
 obtain ⟨n, rfl, _, _, hw⟩ := open_int Tryz.underlying3 hv h
 refine ⟨n, rfl, ?_⟩
 have : IntKind.min .i64 ≤ n ∧ n ≤ IntKind.max .i64 := by simpa [Lit.wf] using hw
 simpa [i64ok, IntKind.min, IntKind.max, IntKind.signed, IntKind.bits] using this
end
theorem argOk46 : ArgOk 46 := ⟨by kernel_rfl, of_decide_eq_true (by kernel_rfl)⟩
section
variable {H : Type} {enc : TypeId × Value → H}
theorem recs_trod {α : Type} {k : Nat} {f : α → List Value} {ok : α → Prop} (hk : 0 < k) {W : World} {t e : TypeId} (ht : Tryz.prog.underlying t = some (.slice e)) (hc : Tryz.prog.cellsOf e = k)
 (hel : ∀ n cs (y : DataW H × List MemPlace), cs.length = k → DataW.trod enc Tryz.prog W 0 (fun _ => true) true n e cs = some y → ∃ x, cs = f x ∧ ok x)
 {n : Nat} {cs : List Value} {x : DataW H × List MemPlace} (h : DataW.trod enc Tryz.prog W 0 (fun _ => true) true n t cs = some x) :
 ∃ (a : Option Addr) (cap : Nat) (l : List α), cs = [.slice a l.length cap] ∧ RecsAt k f W a l ∧ (l.length ≤ cap ∧ cap ≤ 9223372036854775807) ∧ ∀ x ∈ l, ok x := by
 rcases open_slice ht h with ⟨h1, _⟩ | ⟨a, len, cap, m, n', D, Pl, hcs, _, hl, hm, hmm, _, hx⟩
 ·exact ⟨none, 0, [], h1, .inl rfl, ⟨Nat.le_refl _, Nat.zero_le _⟩, by simp⟩
 ·have hmm' : m = cap := hmm
  rw [hc] at hx
  obtain ⟨l, hll, hlp⟩ := list_of (p := fun i (b : α) => (∀ j, j < k → W.cell? ((a.add (i * k)).add j) = (f b)[j]?) ∧ (f b).length = k ∧ ok b) len (fun i hi => by
   obtain ⟨cs', hc', htr⟩ := hx i (by omega)
   obtain ⟨_, hlen, hat⟩ := World.cells?_some hc'
   obtain ⟨b, rfl, hb⟩ := hel _ _ _ hlen htr
   exact ⟨b, hat, hlen, hb⟩)
  have hm2 : cap ≤ 9223372036854775807 := hm
  refine ⟨some a, cap, l, by rw [hcs, hll], ?_, ⟨by omega, hm2⟩, fun x hx => ?_⟩
  ·by_cases h0 : len = 0
   ·exact .inl (List.length_eq_zero_iff.1 (by omega))
   ·obtain ⟨z1, z2, _⟩ := hlp 0 (by omega)
    have z := z1 0 hk
    rw [List.getElem?_eq_getElem (by omega)] at z
    have ha : a.spot = none := by
     have := (cell_plain z).1
     unfold Addr.add at this
     simpa using this
    obtain ⟨b, off, sp⟩ := a
    simp only at ha
    subst ha
    simp only [add_plain] at hlp
    refine .inr ⟨b, off, rfl, ?_, fun i hi => (hlp i hi).1⟩
    have z3 := (hlp 0 (by omega)).1 0 hk
    rw [List.getElem?_eq_getElem (by omega)] at z3
    exact (cell_plain z3).2
  ·obtain ⟨i, hi, rfl⟩ := List.getElem_of_mem hx
   exact (hlp i hi).2.2
theorem str_cell {W : World} {n : Nat} {v : Value} {y : DataW H × List MemPlace} (h : DataW.trod enc Tryz.prog W 0 (fun _ => true) true n 9 [v] = some y) : ∃ s : ByteArray, v = .string s ∧ s.size ≤ 9223372036854775807 := by
 obtain ⟨s, h1, _, h2⟩ := DataW.trod_string Tryz.underlying9 h
 exact ⟨s, by simpa using h1, h2⟩
theorem sta_trod {W : World} {n : Nat} {cs : List Value} {y : DataW H × List MemPlace} (hl : cs.length = 2) (h : DataW.trod enc Tryz.prog W 0 (fun _ => true) true n 55 cs = some y) : ∃ s : Sta, cs = s.cells ∧ s.name.size ≤ 9223372036854775807 ∧ i64ok s.x := by
 have c9 : Tryz.prog.cellsOf 9 = 1 := by kernel_rfl
 have c3 : Tryz.prog.cellsOf 3 = 1 := by kernel_rfl
 match cs, hl with
 | [u0, u1], _ =>
   obtain ⟨ys, n2, _, _, _, hyl, hf⟩ := DataW.trod_struct Tryz.underlying55 h
   match ys, hyl with
   | [y0, y1], _ =>
     have f0 : DataW.trod enc Tryz.prog W 0 (fun _ => true) true n2 9 (([u0, u1].drop 0).take (Tryz.prog.cellsOf 9)) = some y0 := hf 0 _ rfl
     have f1 : DataW.trod enc Tryz.prog W 0 (fun _ => true) true n2 3 (([u0, u1].drop 1).take (Tryz.prog.cellsOf 3)) = some y1 := hf 1 _ rfl
     rw [c9] at f0
     rw [c3] at f1
     obtain ⟨k0, rfl, o0⟩ := str_cell (v := u0) (y := y0) f0
     obtain ⟨k1, rfl, o1⟩ := int_cell (v := u1) (y := y1) f1
     exact ⟨⟨k0, k1⟩, rfl, o0, o1⟩
theorem par_trod {W : World} {n : Nat} {cs : List Value} {y : DataW H × List MemPlace} (hl : cs.length = 4) (h : DataW.trod enc Tryz.prog W 0 (fun _ => true) true n 53 cs = some y) : ∃ s : Par, cs = s.cells ∧ s.name.size ≤ 9223372036854775807 ∧ i64ok s.south ∧ i64ok s.wst ∧ i64ok s.est := by
 have c9 : Tryz.prog.cellsOf 9 = 1 := by kernel_rfl
 have c3 : Tryz.prog.cellsOf 3 = 1 := by kernel_rfl
 match cs, hl with
 | [u0, u1, u2, u3], _ =>
   obtain ⟨ys, n2, _, _, _, hyl, hf⟩ := DataW.trod_struct Tryz.underlying53 h
   match ys, hyl with
   | [y0, y1, y2, y3], _ =>
     have f0 : DataW.trod enc Tryz.prog W 0 (fun _ => true) true n2 9 (([u0, u1, u2, u3].drop 0).take (Tryz.prog.cellsOf 9)) = some y0 := hf 0 _ rfl
     have f1 : DataW.trod enc Tryz.prog W 0 (fun _ => true) true n2 3 (([u0, u1, u2, u3].drop 1).take (Tryz.prog.cellsOf 3)) = some y1 := hf 1 _ rfl
     have f2 : DataW.trod enc Tryz.prog W 0 (fun _ => true) true n2 3 (([u0, u1, u2, u3].drop 2).take (Tryz.prog.cellsOf 3)) = some y2 := hf 2 _ rfl
     have f3 : DataW.trod enc Tryz.prog W 0 (fun _ => true) true n2 3 (([u0, u1, u2, u3].drop 3).take (Tryz.prog.cellsOf 3)) = some y3 := hf 3 _ rfl
     rw [c9] at f0
     rw [c3] at f1 f2 f3
     obtain ⟨k0, rfl, o0⟩ := str_cell (v := u0) (y := y0) f0
     obtain ⟨k1, rfl, o1⟩ := int_cell (v := u1) (y := y1) f1
     obtain ⟨k2, rfl, o2⟩ := int_cell (v := u2) (y := y2) f2
     obtain ⟨k3, rfl, o3⟩ := int_cell (v := u3) (y := y3) f3
     exact ⟨⟨k0, k1, k2, k3⟩, rfl, o0, o1, o2, o3⟩
theorem vrn_trod {W : World} {n : Nat} {cs : List Value} {y : DataW H × List MemPlace} (hl : cs.length = 2) (h : DataW.trod enc Tryz.prog W 0 (fun _ => true) true n 211 cs = some y) : ∃ s : Vrn, cs = s.cells ∧ i64ok s.year ∧ i64ok s.east := by
 have c3 : Tryz.prog.cellsOf 3 = 1 := by kernel_rfl
 match cs, hl with
 | [u0, u1], _ =>
   obtain ⟨ys, n2, _, _, _, hyl, hf⟩ := DataW.trod_struct Tryz.underlying211 h
   match ys, hyl with
   | [y0, y1], _ =>
     have f0 : DataW.trod enc Tryz.prog W 0 (fun _ => true) true n2 3 (([u0, u1].drop 0).take (Tryz.prog.cellsOf 3)) = some y0 := hf 0 _ rfl
     have f1 : DataW.trod enc Tryz.prog W 0 (fun _ => true) true n2 3 (([u0, u1].drop 1).take (Tryz.prog.cellsOf 3)) = some y1 := hf 1 _ rfl
     rw [c3] at f0 f1
     obtain ⟨k0, rfl, o0⟩ := int_cell (v := u0) (y := y0) f0
     obtain ⟨k1, rfl, o1⟩ := int_cell (v := u1) (y := y1) f1
     exact ⟨⟨k0, k1⟩, rfl, o0, o1⟩
set_option maxRecDepth 100000 in
theorem open_fld {b0 : Nat} {W : World} {v : Value} {d : DataW H} {p : List MemPlace} (hv : Value.okWide Tryz.prog W .any b0 46 v) (h : DataW.Trod enc Tryz.prog W 0 (fun _ => true) true 46 v d p) :
 ∃ (x : FV) (F : Fld), v = x.val F ∧ FldAt W x F := by
 obtain ⟨v0, v1, v2, v3, y0, y1, y2, y3, n, rfl, _, _, h0, h1, h2, h3⟩ := open_agg4 Tryz.underlying46 (by kernel_rfl) (by kernel_rfl) hv h
 obtain ⟨aS, cS, sts, e0, r0, l0, k0⟩ := recs_trod (k := 2) (f := Sta.cells) (by omega) Tryz.underlying41 (by kernel_rfl) (fun n cs y hl hh => sta_trod hl hh) h0
 obtain ⟨aL, cL, lms, e1, r1, l1, k1⟩ := recs_trod (k := 1) (f := strCells) (by omega) Tryz.underlying42 (by kernel_rfl) (fun n cs y hl hh => by
  match cs, hl with
  | [u], _ =>
    obtain ⟨s, rfl, hs⟩ := str_cell hh
    exact ⟨s, rfl, hs⟩) h1
 obtain ⟨aP, cP, prs, e2, r2, l2, k2⟩ := recs_trod (k := 4) (f := Par.cells) (by omega) Tryz.underlying43 (by kernel_rfl) (fun n cs y hl hh => par_trod hl hh) h2
 obtain ⟨aV, cV, vrs, e3, r3, l3, k3⟩ := recs_trod (k := 2) (f := Vrn.cells) (by omega) Tryz.underlying44 (by kernel_rfl) (fun n cs y hl hh => vrn_trod hl hh) h3
 simp only [List.cons.injEq, and_true] at e0 e1 e2 e3
 subst e0 e1 e2 e3
 refine ⟨⟨aS, cS, aL, cL, aP, cP, aV, cV⟩, ⟨sts, lms, prs, vrs⟩, rfl, r0, r1, r2, r3, l0, l1, l2, l3, ?_, fun s hs => (k0 s hs).2, fun s hs => (k2 s hs).2, k3⟩
 intro l hl s hs
 simp only [Fld.names, List.mem_cons, List.not_mem_nil, or_false] at hl
 rcases hl with rfl | rfl | rfl
 ·obtain ⟨t, ht, rfl⟩ := List.mem_map.1 hs
  exact (k0 t ht).1
 ·exact k1 s hs
 ·obtain ⟨t, ht, rfl⟩ := List.mem_map.1 hs
  exact (k2 t ht).1
end
end Go.Proofs.YthjmkmjojlfejaaGreat
