/- Merged text 7 of the base: So8, So9, Sa, Sb, Sd, Ar2, Se, Gq, Gr. No conditions beyond those stated. -/
import Derived.Test.YthjmkmjojlfejaaGreatB06
import Derived.Test.YthjmkmjojlfejaaGreatB01
import Derived.Test.YthjmkmjojlfejaaGreatB02
import Derived.Test.YthjmkmjojlfejaaGreatB03
import Derived.Test.YthjmkmjojlfejaaGreatB05
namespace Go.Proofs.YthjmkmjojlfejaaGreat
open Go Go.RowKit Go.Shelf
def BlockOk (key : Int → Int) (bs : Nat) (F : Nat → Int) (n : Nat) : Prop := ∀ x y, x < y → y < n → (x / bs = y / bs → keyLt key (F x) (F y)) ∧ (x / bs < y / bs → F x < F y)
def HalfOk (key : Int → Int) (b1 b2 : Nat) (F : Nat → Int) (n a : Nat) : Prop := ∀ x y, x < y → y < n →
 (y < a → x / b2 = y / b2 → keyLt key (F x) (F y)) ∧ (x / b2 < y / b2 → F x < F y) ∧ (a ≤ x → x / b1 = y / b1 → keyLt key (F x) (F y)) ∧ (a ≤ x → x / b1 < y / b1 → F x < F y)
def StepAt (b1 b2 a : Nat) : Prop := (b1 = 1 ∧ b2 = 20 ∧ a % 20 = 0) ∨ (b1 = 20 ∧ b2 = 40 ∧ a % 40 = 0) ∨ (b1 = 40 ∧ b2 = 80 ∧ a % 80 = 0)
theorem StepAt.next {b1 b2 a : Nat} (h : StepAt b1 b2 a) : StepAt b1 b2 (a + b2) := by
 unfold StepAt at *
 omega
theorem HalfOk.start {key : Int → Int} {b1 b2 : Nat} {F : Nat → Int} {n : Nat} (hs : StepAt b1 b2 0) (h : BlockOk key b1 F n) : HalfOk key b1 b2 F n 0 := by
 intro x y hxy hy
 have := h x y hxy hy
 refine ⟨fun h1 => by omega, fun h1 => this.2 ?_, fun _ => this.1, fun _ => this.2⟩
 rcases hs with ⟨rfl, rfl, _⟩ | ⟨rfl, rfl, _⟩ | ⟨rfl, rfl, _⟩ <;> omega
theorem moved_block {F G : Nat → Int} {b1 b2 a b n : Nat} (hs : StepAt b1 b2 a) (hab : b ≤ a + b2) (hb : b ≤ n) (hm : MovedF F G a b) (x : Nat) (hx : x < n) : ∃ x', x' < n ∧ x' / b2 = x / b2 ∧ G x = F x' := by
 by_cases hin : a ≤ x ∧ x < b
 ·obtain ⟨y, y1, y2, e⟩ := hm.mem x hin.1 hin.2
  refine ⟨y, by omega, ?_, e⟩
  rcases hs with ⟨rfl, rfl, _⟩ | ⟨rfl, rfl, _⟩ | ⟨rfl, rfl, _⟩ <;> omega
 ·exact ⟨x, hx, rfl, hm.same x hin⟩
theorem half_great {key : Int → Int} {F G : Nat → Int} {b1 b2 a b n : Nat} (hs : StepAt b1 b2 a) (hab : b ≤ a + b2) (hb : b ≤ n) (h : HalfOk key b1 b2 F n a) (hm : MergedF (keyLt key) F G a b) (x y : Nat) (hxy : x < y) (hy : y < n) :
 (y < b → x / b2 = y / b2 → keyLt key (G x) (G y)) ∧ (x / b2 < y / b2 → G x < G y) := by
 refine ⟨fun h1 h2 => ?_, fun h1 => ?_⟩
 ·by_cases hya : y < a
  ·rw [hm.moved.same x (by omega), hm.moved.same y (by omega)]
   exact (h x y hxy hy).1 hya h2
  ·refine hm.sorted x y ?_ hxy h1
   rcases hs with ⟨rfl, rfl, _⟩ | ⟨rfl, rfl, _⟩ | ⟨rfl, rfl, _⟩ <;> omega
 ·obtain ⟨x', x1, x2, ex⟩ := moved_block hs hab hb hm.moved x (by omega)
  obtain ⟨y', y1, y2, ey⟩ := moved_block hs hab hb hm.moved y hy
  rw [ex, ey]
  refine (h x' y' ?_ y1).2.1 (by rw [x2, y2]; exact h1)
  rcases hs with ⟨rfl, rfl, _⟩ | ⟨rfl, rfl, _⟩ | ⟨rfl, rfl, _⟩ <;> omega
theorem HalfOk.step {key : Int → Int} {F G : Nat → Int} {b1 b2 a n : Nat} (hs : StepAt b1 b2 a) (hb : a + b2 ≤ n) (h : HalfOk key b1 b2 F n a) (hm : MergedF (keyLt key) F G a (a + b2)) : HalfOk key b1 b2 G n (a + b2) := by
 intro x y hxy hy
 have h1 := half_great hs (Nat.le_refl _) hb h hm x y hxy hy
 refine ⟨h1.1, h1.2, fun h2 => ?_, fun h2 => ?_⟩
 ·rw [hm.moved.same x (by omega), hm.moved.same y (by omega)]
  exact (h x y hxy hy).2.2.1 (by omega)
 ·rw [hm.moved.same x (by omega), hm.moved.same y (by omega)]
  exact (h x y hxy hy).2.2.2 (by omega)
theorem HalfOk.last {key : Int → Int} {F G : Nat → Int} {b1 b2 a n : Nat} (hs : StepAt b1 b2 a) (hb : n ≤ a + b2) (h : HalfOk key b1 b2 F n a) (hm : MergedF (keyLt key) F G a n) : BlockOk key b2 G n := by
 intro x y hxy hy
 have h1 := half_great hs hb (Nat.le_refl _) h hm x y hxy hy
 exact ⟨h1.1 hy, h1.2⟩
theorem HalfOk.done {key : Int → Int} {F : Nat → Int} {b1 b2 a n : Nat} (hs : StepAt b1 b2 a) (hb : n ≤ a + b1) (h : HalfOk key b1 b2 F n a) : BlockOk key b2 F n := by
 intro x y hxy hy
 have h1 := h x y hxy hy
 refine ⟨fun h2 => ?_, h1.2.1⟩
 by_cases hya : y < a
 ·exact h1.1 hya h2
 ·refine h1.2.2.1 ?_ ?_ <;> rcases hs with ⟨rfl, rfl, _⟩ | ⟨rfl, rfl, _⟩ | ⟨rfl, rfl, _⟩ <;> omega
theorem HalfOk.left {key : Int → Int} {F : Nat → Int} {b1 b2 a n : Nat} (hs : StepAt b1 b2 a) (hb : a + b1 ≤ n) (h : HalfOk key b1 b2 F n a) : SortedF (keyLt key) F a (a + b1) := by
 intro x y h1 h2 h3
 refine (h x y h2 (by omega)).2.2.1 h1 ?_
 rcases hs with ⟨rfl, rfl, _⟩ | ⟨rfl, rfl, _⟩ | ⟨rfl, rfl, _⟩ <;> omega
theorem HalfOk.right {key : Int → Int} {F : Nat → Int} {b1 b2 a b n : Nat} (hs : StepAt b1 b2 a) (hb : b ≤ n) (hab : b ≤ a + b2) (h : HalfOk key b1 b2 F n a) (h1 : b1 ≠ 1) : SortedF (keyLt key) F (a + b1) b := by
 intro x y h1 h2 h3
 refine (h x y h2 (by omega)).2.2.1 (by omega) ?_
 rcases hs with ⟨rfl, rfl, _⟩ | ⟨rfl, rfl, _⟩ | ⟨rfl, rfl, _⟩ <;> omega
theorem HalfOk.cross {key : Int → Int} {F : Nat → Int} {b1 b2 a b n : Nat} (hs : StepAt b1 b2 a) (hb : b ≤ n) (h : HalfOk key b1 b2 F n a) : ∀ x y, a ≤ x → x < a + b1 → a + b1 ≤ y → y < b → F x < F y := by
 intro x y h1 h2 h3 h4
 refine (h x y (by omega) (by omega)).2.2.2 h1 ?_
 rcases hs with ⟨rfl, rfl, _⟩ | ⟨rfl, rfl, _⟩ | ⟨rfl, rfl, _⟩ <;> omega
theorem HalfOk.asc {key : Int → Int} {F : Nat → Int} {b2 a b n : Nat} (hb : b ≤ n) (h : HalfOk key 1 b2 F n a) : ∀ x y, a ≤ x → x < y → y < b → F x < F y :=
 fun x y h1 h2 h3 => (h x y h2 (by omega)).2.2.2 h1 (by omega)
theorem BlockOk.first {key : Int → Int} {f : Nat → Int} {n : Nat} (h : ∀ x y, x < y → y < n → f x < f y) : BlockOk key 1 f n := fun x y hxy hy => ⟨fun h1 => by omega, fun _ => h x y hxy hy⟩
theorem BlockOk.all {key : Int → Int} {b : Nat} {F : Nat → Int} {n : Nat} (h : BlockOk key b F n) (hb : n ≤ b) : SortedF (keyLt key) F 0 n := by
 intro x y _ h2 h3
 refine (h x y h2 h3).1 ?_
 rw [Nat.div_eq_of_lt (by omega), Nat.div_eq_of_lt (by omega)]
set_option maxRecDepth 100000 in
set_option maxHeartbeats 16000000 in
theorem stableCmp_any (w : World) (g n : Nat) (f : Nat → Int) (cf : FuncId) (caps : Array Value) (key : Int → Int) (hn : n ≤ 50) (hin : RowIn f n) (hasc : ∀ x y, x < y → y < n → f x < f y)
 (hg : w.heap[g]? = some (.cells (rowF f n) 3 (0,0))) (hc : CmpOk cf caps g n key w) (eg : Enters Tryz.prog cf) :
 Calls Tryz.prog 224 #[.slice (some ⟨g, 0, none⟩) n n, .int .i64 (n : Int), .func (.func cf) #[] caps] w fun e w' => e = .returned (.tuple #[]) ∧ (∃ f', MergedF (keyLt key) f f' 0 n ∧ w'.heap[g]? = some (.cells (rowF f' n) 3 (0,0))) ∧ OnlyG g w w' := by
 have HIN := hidE hin
 have HH := hidE (HalfOk.start (key := key) (b2 := 20) (.inl ⟨rfl, rfl, rfl⟩) (BlockOk.first hasc))
 have HG := hidE hg
 have HC := hidE hc
 have EG := hidE eg
 clear hin hasc hg hc eg
 go_enter Tryz.func224, Tryz.ntmps224
 go_wp2_with fail
 go_loopw [7, 8] (fun x y wr => ∃ (a : Nat) (F : Nat → Int), a ≤ n ∧ x = .int .i64 (a : Int) ∧ y = .int .i64 ((a : Int) + 20) ∧ Hid (StepAt 1 20 a) ∧ Hid (HalfOk key 1 20 F n a) ∧ Hid (MovedF f F 0 n) ∧ Hid (wr.heap[g]? = some (.cells (rowF F n) 3 (0,0))) ∧ Hid (OnlyG g w wr)) (fun x _ _ => n + 20 - (intOf x).toNat)
 case atStart => exact ⟨0, f, by omega, rfl, rfl, hidE (.inl ⟨rfl, rfl, rfl⟩), HH, hidE (MovedF.refl _ _ _), HG, hidE (OnlyG.refl _ _)⟩
 case round =>
  obtain ⟨a, F, ha, rfl, rfl, HST, HHF, HMO, HR, HO⟩ := hrel
  obtain ⟨wx, rfl⟩ : ∃ x : World, x = wr := ⟨wr, rfl⟩
  by_cases hlt : a + 20 ≤ n
  ·have hdl : decide ((a : Int) + 20 ≤ (n : Int)) = true := by simp; omega
   have hw : IntKind.i64.wrap ((a : Int) + 20) = (a : Int) + 20 := IntWalk.i64_in _ (by omega)
   have hw2 : IntKind.i64.wrap ((a : Int) + 20 + 20) = (a : Int) + 20 + 20 := IntWalk.i64_in _ (by omega)
   have HCALL := hidE (insertion_any wx g n a (a + 20) F cf caps key (by omega) (by omega) hlt (HIN.out.moved HMO.out (Nat.le_refl _)) (HHF.out.asc hlt) HR.out (HC.out.only HO.out) EG.out)
   go_wp2_with fail
   refine HCALL.out.mono ?_
   rintro e w1 ⟨rfl, ⟨f2, hm2, hg2⟩, ho2⟩
   have HH2 := hidE (HHF.out.step HST.out hlt hm2)
   have HM2 := hidE (HMO.out.trans (hm2.moved.wide (Nat.zero_le _) hlt))
   have HG2 := hidE hg2
   have HO2 := hidE (HO.out.trans ho2)
   clear hm2 hg2 ho2
   go_wp2_with fail
   go_roundw
   case rel => exact ⟨a + 20, f2, hlt, by go_num, by go_num, hidE HST.out.next, HH2, HM2, HG2, HO2⟩
   case measure => simp [intOf]; omega
  ·have hdl : decide ((a : Int) + 20 ≤ (n : Int)) = false := by simp; omega
   have HCALL := hidE (insertion_any wx g n a n F cf caps key (by omega) (by omega) (Nat.le_refl _) (HIN.out.moved HMO.out (Nat.le_refl _)) (HHF.out.asc (Nat.le_refl _)) HR.out (HC.out.only HO.out) EG.out)
   have hlt2 : n ≤ a + 20 := by omega
   clear hlt
   go_wp2_with fail
   refine HCALL.out.mono ?_
   rintro e w1 ⟨rfl, ⟨f2, hm2, hg2⟩, ho2⟩
   have HB2 := hidE (HHF.out.last HST.out hlt2 hm2)
   have HM2 := hidE (HMO.out.trans (hm2.moved.wide (Nat.zero_le _) (Nat.le_refl _)))
   have HG2 := hidE hg2
   have HO2 := hidE (HO.out.trans ho2)
   clear hm2 hg2 ho2 HCALL HHF HMO HR HO HST hlt2
   go_wp2_with fail
   go_loopw [6] (fun x wr => ∃ (B : Nat) (F : Nat → Int), x = .int .i64 (B : Int) ∧ Hid (B = 20 ∨ B = 40 ∨ B = 80) ∧ Hid (BlockOk key B F n) ∧ Hid (MovedF f F 0 n) ∧ Hid (wr.heap[g]? = some (.cells (rowF F n) 3 (0,0))) ∧ Hid (OnlyG g w wr)) (fun x _ => 100 - (intOf x).toNat)
   case atStart => exact ⟨20, f2, rfl, hidE (.inl rfl), HB2, HM2, HG2, HO2⟩
   case round =>
    obtain ⟨B, F3, rfl, HB3, HBK, HM3, HR3, HO3⟩ := hrel
    obtain ⟨wy, rfl⟩ : ∃ x : World, x = wr := ⟨wr, rfl⟩
    have hB3 : B ≤ 80 := by have := HB3.out; omega
    have hB4 : 20 ≤ B := by have := HB3.out; omega
    by_cases hlt : B < n
    ·have hdl : decide ((B : Int) < (n : Int)) = true := by simp; omega
     have hdl2 : decide (B < n) = true := by simp; omega
     have HBB := hidE (show StepAt B (2 * B) 0 by have := HB3.out; unfold StepAt; omega)
     have hw : IntKind.i64.wrap ((B : Int) * 2) = (B : Int) * 2 := IntWalk.i64_in _ (by omega)
     have hw2 : IntKind.i64.wrap (2 * (B : Int)) = 2 * (B : Int) := IntWalk.i64_in _ (by omega)
     go_wp2_with fail
     go_loopw [7, 8] (fun x y wr => ∃ (a b : Nat) (F : Nat → Int), a ≤ n ∧ b = a + 2 * B ∧ x = .int .i64 (a : Int) ∧ y = .int .i64 (b : Int) ∧ Hid (StepAt B (2 * B) a) ∧ Hid (HalfOk key B (2 * B) F n a) ∧ Hid (MovedF f F 0 n) ∧ Hid (wr.heap[g]? = some (.cells (rowF F n) 3 (0,0))) ∧ Hid (OnlyG g w wr)) (fun x _ _ => n + 20 - (intOf x).toNat)
     case atStart => exact ⟨0, 2 * B, F3, by omega, by omega, rfl, by simp, HBB, hidE (HBK.out |> HalfOk.start HBB.out), HM3, HR3, HO3⟩
     case round =>
      obtain ⟨a2, b2, F4, ha2, hb2, rfl, rfl, HST, HHF, HM4, HR4, HO4⟩ := hrel
      obtain ⟨wz, rfl⟩ : ∃ x : World, x = wr := ⟨wr, rfl⟩
      have HBE := hidE hb2
      have hbn : b2 ≤ 210 := by omega
      have e1 : (a2 : Int) + (B : Int) = ((a2 + B : Nat) : Int) := by omega
      obtain ⟨m2, hm2⟩ : ∃ m, a2 + B = m := ⟨_, rfl⟩
      rw [hm2] at e1
      have HME := hidE hm2
      have hmn : m2 ≤ 130 := by omega
      have e2 : (b2 : Int) + 2 * (B : Int) = ((b2 + 2 * B : Nat) : Int) := by omega
      obtain ⟨c2, hc2⟩ : ∃ m, b2 + 2 * B = m := ⟨_, rfl⟩
      rw [hc2] at e2
      have HCE := hidE hc2
      have hcn : c2 ≤ 370 := by omega
      clear hb2 hm2 hc2
      have HAM := hidE (show a2 < m2 ∧ m2 < b2 ∧ b2 = a2 + 2 * B by have h1 := HBE.out; have h2 := HME.out; omega)
      by_cases hl2 : b2 ≤ n
      ·have hd2 : decide ((b2 : Int) ≤ (n : Int)) = true := by simp; omega
       have HCALL := hidE (symMerge_any g n cf caps key EG.out (b2 - a2 + 1) wz a2 m2 b2 F4 (by omega) HAM.out.1 HAM.out.2.1 (by omega) hl2 (HIN.out.moved HM4.out (Nat.le_refl _)) (by have := HHF.out.left HST.out (by have := HAM.out; have := HME.out; omega); rwa [HME.out] at this) (by have := HHF.out.right (b := b2) HST.out hl2 (by have := HAM.out; omega) (by omega); rwa [HME.out] at this) (by have := HHF.out.cross (b := b2) HST.out hl2; rwa [HME.out] at this) HR4.out (HC.out.only HO4.out))
       go_wp2_with fail
       refine HCALL.out.mono ?_
       rintro e w5 ⟨rfl, ⟨f5, hm5, hg5⟩, ho5⟩
       have HH5 := hidE (show HalfOk key B (2 * B) f5 n b2 by have hq := HAM.out.2.2; rw [hq] at hm5 ⊢; exact HHF.out.step HST.out (by omega) hm5)
       have HS5 := hidE (show StepAt B (2 * B) b2 by have hq := HAM.out.2.2; rw [hq]; exact HST.out.next)
       have HM5 := hidE (HM4.out.trans (hm5.moved.wide (Nat.zero_le _) hl2))
       have HG5 := hidE hg5
       have HO5 := hidE (HO4.out.trans ho5)
       clear hm5 hg5 ho5 HCALL
       go_wp2_with fail
       go_roundw
       case rel => exact ⟨b2, c2, f5, hl2, HCE.out.symm, rfl, rfl, HS5, HH5, HM5, HG5, HO5⟩
       case measure => have := HAM.out; simp [intOf]; omega
      ·have hd2 : decide ((b2 : Int) ≤ (n : Int)) = false := by simp; omega
       by_cases hl3 : m2 < n
       ·have hd3 : decide ((m2 : Int) < (n : Int)) = true := by simp; omega
        have hd4 : decide (m2 < n) = true := by simp; omega
        have HCALL := hidE (symMerge_any g n cf caps key EG.out (n - a2 + 1) wz a2 m2 n F4 (by omega) HAM.out.1 hl3 (by omega) (Nat.le_refl _) (HIN.out.moved HM4.out (Nat.le_refl _)) (by have := HHF.out.left HST.out (by have := HME.out; omega); rwa [HME.out] at this) (by have := HHF.out.right (b := n) HST.out (Nat.le_refl _) (by have := HAM.out; omega) (by omega); rwa [HME.out] at this) (by have := HHF.out.cross (b := n) HST.out (Nat.le_refl _); rwa [HME.out] at this) HR4.out (HC.out.only HO4.out))
        have hq2 : n ≤ a2 + 2 * B := by have := HAM.out; omega
        go_wp2_with fail
        refine HCALL.out.mono ?_
        rintro e w5 ⟨rfl, ⟨f5, hm5, hg5⟩, ho5⟩
        have HH5 := hidE (HHF.out.last HST.out hq2 hm5)
        have HM5 := hidE (HM4.out.trans (hm5.moved.wide (Nat.zero_le _) (Nat.le_refl _)))
        have HG5 := hidE hg5
        have HO5 := hidE (HO4.out.trans ho5)
        clear hm5 hg5 ho5 HCALL
        go_wp2_with fail
        go_roundw
        case rel => exact ⟨2 * B, f5, by go_num, hidE (by have := HB3.out; omega), HH5, HM5, HG5, HO5⟩
        case measure => simp [intOf]; omega
       ·have hd3 : decide ((m2 : Int) < (n : Int)) = false := by simp; omega
        have hd4 : decide (m2 < n) = false := by simp; omega
        have HH5 := hidE (HHF.out.done HST.out (by have := HME.out; omega))
        go_wp2_with fail
        go_roundw
        case rel => exact ⟨2 * B, F4, by go_num, hidE (by have := HB3.out; omega), HH5, HM4, HR4, HO4⟩
        case measure => simp [intOf]; omega
    ·have hdl : decide ((B : Int) < (n : Int)) = false := by simp; omega
     have HF := hidE (show MergedF (keyLt key) f F3 0 n from ⟨HBK.out.all (by omega), HM3.out⟩)
     go_wp2_with fail
     go_end0
     exact ⟨rfl, ⟨F3, HF.out, HR3.out⟩, HO3.out⟩
theorem sortStable_any (w : World) (g n : Nat) (f : Nat → Int) (cf : FuncId) (caps : Array Value) (key : Int → Int) (hn : n ≤ 50) (hin : RowIn f n) (hasc : ∀ x y, x < y → y < n → f x < f y)
 (hg : w.heap[g]? = some (.cells (rowF f n) 3 (0,0))) (hc : CmpOk cf caps g n key w) (eg : Enters Tryz.prog cf) :
 Calls Tryz.prog 196 #[.slice (some ⟨g, 0, none⟩) n n, .func (.func cf) #[] caps] w fun e w' => e = .returned (.tuple #[]) ∧ (∃ f', MergedF (keyLt key) f f' 0 n ∧ w'.heap[g]? = some (.cells (rowF f' n) 3 (0,0))) ∧ OnlyG g w w' := by
 have HC := hidE (stableCmp_any w g n f cf caps key hn hin hasc hg hc eg)
 clear hin hasc hg hc eg
 go_enter Tryz.func196, Tryz.ntmps196
 go_wp2_with fail
 refine HC.out.mono ?_
 rintro e w1 ⟨rfl, hh, ho⟩
 go_wp2_with fail
 go_end0
 exact ⟨rfl, hh, ho⟩
theorem shares1_any (w : World) (x y : Int) : Calls Tryz.prog 154 #[.int .i64 x, .int .i64 y] w fun e w' => e = .returned (.int .i64 (Lib.compareInt y x)) ∧ w' = w := by
 go_enter Tryz.func154, Tryz.ntmps154
 go_wp2_with fail
 refine (Tryz.cmp_Compare_int _ _ _).mono ?_
 rintro e w1 ⟨rfl, rfl⟩
 go_wp2_with fail
 go_ret
 exact ⟨rfl, rfl⟩
def keyOf (rest : List Int) : Int → Int := fun i => rest.getD i.toNat 0
theorem cmpV_of (rest : List Int) (x y : Nat) : Lib.compareInt (rest.getD y 0) (rest.getD x 0) = cmpV (keyOf rest) (x : Int) (y : Int) := by
 simp [Lib.compareInt, cmpV, keyOf]
set_option maxRecDepth 100000 in
set_option maxHeartbeats 4000000 in
theorem sorted1_any (w : World) (q0 q1 gr : Nat) (rest : List Int) (cap : Nat) (x y : Nat) (hx : x < rest.length) (hy : y < rest.length)
 (h0 : w.heap[q0]? = some (.cells #[.slice (some ⟨gr, 0, none⟩) rest.length cap] 25 (0,0))) (h1 : w.heap[q1]? = some (.cells #[.func (.func 154) #[] #[]] 127 (0,0))) (hr : w.heap[gr]? = some (.cells (rowA rest) 3 (0,0))) (_hl : rest.length ≤ 50) :
 Calls Tryz.prog 197 #[.int .i64 (x : Int), .int .i64 (y : Int), .pointer (some ⟨q1, 0, none⟩), .pointer (some ⟨q0, 0, none⟩)] w fun e w' => e = .returned (.int .i64 (cmpV (keyOf rest) (x : Int) (y : Int))) ∧ ∃ nd, w' = w.drewN nd := by
 have c0 : w.cell? ⟨q0, 0, none⟩ = some (.slice (some ⟨gr, 0, none⟩) rest.length cap) := c_e h0 rfl
 have c1 : w.cell? ⟨q1, 0, none⟩ = some (.func (.func 154) #[] #[]) := c_e h1 rfl
 have c2 : w.cell? ⟨gr, x, none⟩ = some (.int .i64 (rest.getD x 0)) := by rw [cell_of_row _ _ _ _ _ _ hr, rowA_get hx]
 have c3 : w.cell? ⟨gr, y, none⟩ = some (.int .i64 (rest.getD y 0)) := by rw [cell_of_row _ _ _ _ _ _ hr, rowA_get hy]
 have HV := hidE (cmpV_of rest x y)
 obtain ⟨n, hn⟩ : ∃ n, rest.length = n := ⟨_, rfl⟩
 rw [hn] at c0 hx hy _hl
 obtain ⟨u, hu⟩ : ∃ u, rest.getD x 0 = u := ⟨_, rfl⟩
 obtain ⟨v, hv⟩ : ∃ v, rest.getD y 0 = v := ⟨_, rfl⟩
 rw [hu] at c2 HV
 rw [hv] at c3 HV
 obtain ⟨r, hr2⟩ : ∃ r, cmpV (keyOf rest) (x : Int) (y : Int) = r := ⟨_, rfl⟩
 rw [hr2] at HV ⊢
 have HC := hidE (fun W => shares1_any W u v)
 clear h0 h1 hr hn hu hv hr2
 have eg : Enters Tryz.prog 154 := enters_of Tryz.func154 (by kernel_rfl) rfl
 unfold Enters at eg
 go_enter Tryz.func197, Tryz.ntmps197
 go_upto_region 1 with fail
 go_still_tail 9, (by kernel_rfl)
 change wpList _ _ _ _ _ w.drew
 go_wp2_with (go_at_fn 154; refine (HC.out _).mono ?_; rintro e w2 ⟨rfl, rfl⟩)
 go_ret
 exact ⟨by rw [HV.out]; rfl, 1, rfl⟩
theorem rowF_zero (n : Nat) (f : Nat → Int) (h : ∀ x, x < n → f x = 0) : rowF f n = rowA (List.replicate n 0) := by
 unfold rowF
 congr 1
 apply List.ext_getElem?
 intro j
 by_cases hj : j < n
 ·simp [hj, h j hj]
 ·simp [hj]
theorem row_remOrd {rest : List Int} {f' : Nat → Int} (hs : SortedF (keyLt (keyOf rest)) f' 0 rest.length) (hin : RowIn f' rest.length) : rowF f' rest.length = rowA ((remOrd rest).map fun (i : Nat) => (i : Int)) := by
 have hl : ((List.range rest.length).map fun i => (f' i).toNat) = remOrd rest := by
  refine remOrd_unique ?_ ?_
  ·have hnd : ((List.range rest.length).map fun i => (f' i).toNat).Nodup := by
    rw [List.Nodup, List.pairwise_map]
    refine List.Pairwise.imp_of_mem ?_ (List.pairwise_lt_range (n := rest.length))
    intro x y hx hy hxy e
    have h1 := hin x (List.mem_range.1 hx)
    have h2 := hin y (List.mem_range.1 hy)
    have := sorted_values hs x y (List.mem_range.1 hx) (List.mem_range.1 hy) (by omega)
    omega
   have hsub : ∀ v ∈ (List.range rest.length).map (fun i => (f' i).toNat), v ∈ List.range rest.length := by
    intro v hv
    obtain ⟨i, hi, rfl⟩ := List.mem_map.1 hv
    have := hin i (List.mem_range.1 hi)
    exact List.mem_range.2 (by omega)
   refine (List.perm_ext_iff_of_nodup hnd List.nodup_range).2 (fun v => ⟨hsub v, fun hv => Classical.byContradiction fun hno => ?_⟩)
   have h1 := List.Nodup.length_le_of_subset (l₁ := v :: (List.range rest.length).map (fun i => (f' i).toNat)) (l₂ := List.range rest.length) (List.nodup_cons.2 ⟨hno, hnd⟩) (fun u hu => by
    rcases List.mem_cons.1 hu with rfl | hu
    ·exact hv
    ·exact hsub u hu)
   simp only [List.length_cons, List.length_map, List.length_range] at h1
   omega
  ·rw [List.pairwise_map]
   refine List.Pairwise.imp_of_mem ?_ (List.pairwise_lt_range (n := rest.length))
   intro x y hx hy hxy
   have := hs x y (Nat.zero_le _) hxy (List.mem_range.1 hy)
   have h1 := hin x (List.mem_range.1 hx)
   have h2 := hin y (List.mem_range.1 hy)
   unfold keyLt keyOf at this
   unfold remLe
   rcases this with h | ⟨h, h'⟩
   ·simp only [Bool.or_eq_true, Bool.and_eq_true, decide_eq_true_eq]
    exact .inl h
   ·simp only [Bool.or_eq_true, Bool.and_eq_true, decide_eq_true_eq]
    exact .inr ⟨h, by omega⟩
 rw [← hl]
 unfold rowF
 congr 1
 rw [List.map_map]
 refine List.map_congr_left ?_
 intro i hi
 have := hin i (List.mem_range.1 hi)
 simp only [Function.comp]
 omega
set_option maxRecDepth 100000 in
set_option maxHeartbeats 8000000 in
theorem sortedBy_any (w : World) (gr : Nat) (rest : List Int) (cap : Nat) (hr : w.heap[gr]? = some (.cells (rowA rest) 3 (0,0))) (hl : rest.length ≤ 50) :
 Calls Tryz.prog 153 #[.slice (some ⟨gr, 0, none⟩) rest.length cap, .func (.func 154) #[] #[]] w fun e w' => e = .returned (.slice (some ⟨w.heap.size + 2, 0, none⟩) rest.length rest.length) ∧ w'.heap[w.heap.size + 2]? = some (.cells (rowA ((remOrd rest).map fun (i : Nat) => (i : Int))) 3 (0,0)) ∧ Below w.heap.size w w' := by
 obtain ⟨n, hn⟩ : ∃ n, rest.length = n := ⟨_, rfl⟩
 have hmk3 := fun W => run_make_row' (P := Tryz.prog) 25 3 (.int .i64 0) 8 Tryz.underlying25 Tryz.info3' rfl .i64 .i64 n (by omega) (by omega) W
 have lr := lt_of_block hr
 have HR := hidE hr
 have HN := hidE hn
 rw [hn] at hl ⊢
 clear hr hn
 go_enter Tryz.func153, Tryz.ntmps153
 go_upto_region 2 with fail
 obtain ⟨w3, hw3⟩ : ∃ W, W = ((w.alloc (.cells #[.slice (some ⟨gr, 0, none⟩) n cap] 25)).alloc (.cells #[.func (.func 154) #[] #[]] 127)).alloc (.cells (madeCells #[.int .i64 0] n) 3) := ⟨_, rfl⟩
 have HB := hidE (show Below w.heap.size w w3 by rw [hw3]; exact (((Below.refl _ _).alloc (Nat.le_refl _) _).alloc (by simp) _).alloc (by simp; omega) _)
 have s1 : (w.alloc (.cells #[.slice (some ⟨gr, 0, none⟩) n cap] 25)).heap.size = w.heap.size + 1 := by simp
 have s2 : ((w.alloc (.cells #[.slice (some ⟨gr, 0, none⟩) n cap] 25)).alloc (.cells #[.func (.func 154) #[] #[]] 127)).heap.size = w.heap.size + 2 := by simp
 have HX0 := hidE (show w3.heap[w.heap.size]? = some (.cells #[.slice (some ⟨gr, 0, none⟩) n cap] 25 (0,0)) by rw [hw3, Below.heap_alloc _ _ _ (by rw [s2]; omega), Below.heap_alloc _ _ _ (by rw [s1]; omega), heap_alloc_new])
 have HX1 := hidE (show w3.heap[w.heap.size + 1]? = some (.cells #[.func (.func 154) #[] #[]] 127 (0,0)) by
  have := heap_alloc_new (w.alloc (.cells #[.slice (some ⟨gr, 0, none⟩) n cap] 25)) (.cells #[.func (.func 154) #[] #[]] 127)
  rw [s1] at this
  rw [hw3, Below.heap_alloc _ _ _ (by rw [s2]; omega)]; exact this)
 have HX2 := hidE (show w3.heap[w.heap.size + 2]? = some (.cells (rowF (fun x => if x < 0 then (x : Int) else 0) n) 3 (0,0)) by
  have := heap_alloc_new ((w.alloc (.cells #[.slice (some ⟨gr, 0, none⟩) n cap] 25)).alloc (.cells #[.func (.func 154) #[] #[]] 127)) (.cells (madeCells #[.int .i64 0] n) 3)
  rw [s2] at this
  rw [rowF_zero _ _ (fun x _ => by simp), ← madeInts, hw3]; exact this)
 rw [← hw3]
 clear hmk3 s1 s2 hw3
 obtain ⟨A, hA⟩ : ∃ A, A = w.heap.size := ⟨_, rfl⟩
 rw [← hA] at HX0 HX1 HX2 HB lr ⊢
 have HA := hidE hA
 clear hA
 have gA : A + 2 < w3.heap.size := lt_of_block HX2.out
 have eg : Enters Tryz.prog 197 := enters_of Tryz.func197 (by kernel_rfl) rfl
 go_wp2_with fail
 go_loopw [12] (fun i wr => ∃ k : Nat, k ≤ n ∧ i = .int .i64 k ∧ Hid (wr.heap[A + 2]? = some (.cells (rowF (fun x => if x < k then (x : Int) else 0) n) 3 (0,0))) ∧ Hid (OnlyG (A + 2) w3 wr)) (fun i _ => n - (intOf i).toNat)
 case atStart => exact ⟨0, Nat.zero_le _, rfl, HX2, hidE (OnlyG.refl _ _)⟩
 case round =>
  obtain ⟨k, hk, rfl, HC, HO⟩ := hrel
  obtain ⟨wx, rfl⟩ : ∃ x : World, x = wr := ⟨wr, rfl⟩
  have hsz := lt_of_block HC.out
  by_cases hlt : k < n
  ·have fd : wx.frozen? ⟨A + 2, k, none⟩ = false := frozen_of_row _ _ _ _ _ HC.out
   have cd : wx.cell? ⟨A + 2, k, none⟩ = some (.int .i64 0) := by rw [cell_of_row _ _ _ _ _ _ HC.out, rowF_get _ hlt]; simp
   have HS := hidE (rowF_set (fun x => if x < k then (x : Int) else 0) n k (k : Int))
   have HS2 := hidE (show (fun x => if x = k then (k : Int) else if x < k then (x : Int) else 0) = (fun x => if x < k + 1 then (x : Int) else 0) by
    funext x
    by_cases h1 : x = k
    ·subst h1; simp
    ·by_cases h2 : x < k
     ·rw [if_neg h1, if_pos h2, if_pos (by omega)]
     ·rw [if_neg h1, if_neg h2, if_neg (by omega)])
   go_wp2_with fail
   go_roundw
   case rel => exact ⟨k + 1, by omega, by go_num, hidE (by rw [heap_setCell_same _ _ _ _ _ _ HC.out, HS.out, HS2.out]), hidE (HO.out.trans (OnlyG.set _ _ _))⟩
   case measure => simp [intOf]; omega
  ·obtain rfl : k = n := by omega
   have HIN := hidE (show RowIn (fun x => if x < k then (x : Int) else 0) k from fun x hx => by simp only [if_pos hx]; omega)
   have HAS := hidE (show ∀ x y, x < y → y < k → (if x < k then (x : Int) else 0) < (if y < k then (y : Int) else 0) from fun x y h1 h2 => by rw [if_pos (by omega), if_pos h2]; omega)
   have HCM := hidE (show CmpOk 197 #[.pointer (some ⟨A + 1, 0, none⟩), .pointer (some ⟨A, 0, none⟩)] (A + 2) k (keyOf rest) wx by
    intro x y W hW x0 x1 y0 y1
    have ho := HO.out.trans hW
    have hnn := HN.out
    obtain ⟨x, rfl⟩ := Int.eq_ofNat_of_zero_le x0
    obtain ⟨y, rfl⟩ := Int.eq_ofNat_of_zero_le y0
    refine sorted1_any W A (A + 1) gr rest cap x y (by omega) (by omega) ?_ ?_ ?_ (by omega)
    ·rw [ho.same _ (by omega), hnn]; exact HX0.out
    ·rw [ho.same _ (by omega)]; exact HX1.out
    ·rw [ho.same _ (by omega)]; have hb := HB.out; rw [HA.out] at hb lr; exact blk_below hb lr HR.out)
   have HCALL := hidE (sortStable_any wx (A + 2) k _ 197 _ (keyOf rest) hl HIN.out HAS.out HC.out HCM.out eg)
   clear eg
   go_wp2_with fail
   refine HCALL.out.mono ?_
   rintro e w5 ⟨rfl, ⟨f', hm, hg⟩, ho⟩
   have HRO := hidE (row_remOrd (rest := rest) (f' := f') (by rw [HN.out]; exact hm.sorted) (by rw [HN.out]; exact HIN.out.moved hm.moved (Nat.le_refl _)))
   have HG := hidE hg
   have HO2 := hidE (HO.out.trans ho)
   clear hm hg ho
   go_wp2_with fail
   go_ret
   rw [← HA.out]
   exact ⟨rfl, by rw [← HRO.out, HN.out]; exact HG.out, HB.out.trans (HO2.out.bl.mono (by omega))⟩
theorem isum_take (xs : List Int) {k : Nat} (hk : k < xs.length) : isum (xs.take (k + 1)) = isum (xs.take k) + xs[k] := by
 rw [List.take_succ_eq_append_getElem hk, isum_append]; simp [isum]
theorem isum_take_bd {xs : List Int} {c : Int} (hc : 0 ≤ c) (h : ∀ x ∈ xs, 0 ≤ x ∧ x ≤ c) : ∀ k, 0 ≤ isum (xs.take k) ∧ isum (xs.take k) ≤ k * c
 | 0 => by simp [isum]
 | k + 1 => by
   have ih := isum_take_bd hc h k
   by_cases hk : k < xs.length
   ·have := h _ (List.getElem_mem hk)
    rw [isum_take _ hk]
    have e : ((k + 1 : Nat) : Int) * c = k * c + c := by rw [Int.natCast_add, Int.add_mul]; simp
    rw [e]; omega
   ·rw [List.take_of_length_le (by omega)] at ih ⊢
    have e : ((k + 1 : Nat) : Int) * c = k * c + c := by rw [Int.natCast_add, Int.add_mul]; simp
    rw [e]; omega
set_option maxHeartbeats 1000000 in
theorem sum_any (w : World) (a : Option Addr) (cap : Nat) (xs : List Int) (hl : xs.length ≤ 1000000) (h : IntsAt w a xs) (hb : ∀ k, k ≤ xs.length → -9000000000000000000 ≤ isum (xs.take k) ∧ isum (xs.take k) ≤ 9000000000000000000) :
 Calls Tryz.prog 88 #[.slice a xs.length cap] w fun e w' => e = .returned (.int .i64 (isum xs)) ∧ w' = w := by
 have H := hidE h
 have HB := hidE hb
 clear h hb
 go_enter Tryz.func88, Tryz.ntmps88
 go_wp2_with fail
 go_loopw [3, 8] (fun s i wr => ∃ k : Nat, k ≤ xs.length ∧ s = .int .i64 (isum (xs.take k)) ∧ i = .int .i64 k ∧ wr = w) (fun _ i _ => xs.length - (intOf i).toNat)
 case atStart => exact ⟨0, Nat.zero_le _, rfl, rfl, rfl⟩
 case round =>
  obtain ⟨k, hk, rfl, rfl, rfl⟩ := hrel
  have h1 := HB.out k hk
  by_cases hlt : k < xs.length
  ·obtain ⟨b, off, rfl, hbl, hc⟩ := H.out.at hlt
   have h2 := HB.out (k + 1) hlt
   rw [isum_take _ hlt] at h2
   have HS := hidE (isum_take xs hlt)
   obtain ⟨q, hq⟩ : ∃ q, xs[k] = q := ⟨_, rfl⟩
   rw [hq] at hc HS h2
   clear hq
   obtain ⟨z, hz⟩ : ∃ z, isum (xs.take k) = z := ⟨_, rfl⟩
   rw [hz] at HS h1 h2 ⊢
   clear hz
   have hw : IntKind.i64.wrap (z + q) = z + q := IntWalk.i64_in _ (by omega)
   go_wp2_with fail
   go_roundw
   case rel => first | exact ⟨k + 1, by omega, by rw [HS.out], by go_num, rfl⟩ | exact ⟨k + 1, by omega, by rw [HS.out], by go_num, trivial⟩
   case measure => simp [intOf]; omega
  ·obtain rfl : k = xs.length := by omega
   go_wp2_with fail
   go_ret
   exact ⟨by simp only [List.take_length]; rfl, rfl⟩
def outP (ord : List Nat) (L : Nat) (quo : List Int) (k : Nat) : List Int := ((ord.take k).take L).foldl bump quo
theorem outP_succ {ord : List Nat} {L : Nat} {quo : List Int} {k : Nat} (hk : k < ord.length) : outP ord L quo (k + 1) = if k < L then bump (outP ord L quo k) ord[k] else outP ord L quo k := by
 unfold outP
 rw [List.take_take, List.take_take]
 by_cases h : k < L
 ·rw [if_pos h, Nat.min_eq_right (by omega), Nat.min_eq_right (by omega), List.take_succ_eq_append_getElem hk, List.foldl_append]; rfl
 ·rw [if_neg h, Nat.min_eq_left (by omega), Nat.min_eq_left (by omega)]
theorem outP_len (ord : List Nat) (L : Nat) (quo : List Int) (k : Nat) : (outP ord L quo k).length = quo.length := bumps_len _ _
theorem outP_bd {ord : List Nat} {L : Nat} {quo : List Int} (hn : ord.Nodup) (hlt : ∀ i ∈ ord, i < quo.length) (k j : Nat) : quo.getD j 0 ≤ (outP ord L quo k).getD j 0 ∧ (outP ord L quo k).getD j 0 ≤ quo.getD j 0 + 1 := by
 unfold outP
 have hs : ((ord.take k).take L).Sublist ord := (List.take_sublist _ _).trans (List.take_sublist _ _)
 rw [bumps_get _ _ _ (hn.sublist hs) (fun i hi => hlt i (hs.subset hi))]
 split <;> omega
set_option maxRecDepth 100000 in
set_option maxHeartbeats 16000000 in
theorem shares_any (w : World) (total : Int) (a : Option Addr) (cap : Nat) (parts : List Int) (hl : parts.length ≤ 50) (h : IntsAt w a parts) (ht : 0 ≤ total ∧ total ≤ 100000000000) (hp : ∀ x ∈ parts, 0 ≤ x ∧ x ≤ 1000000) (hok : ShOk total parts) :
 Calls Tryz.prog 89 #[.int .i64 total, .slice a parts.length cap] w fun e w' => e = .returned (.slice (some ⟨w.heap.size, 0, none⟩) parts.length parts.length) ∧ w'.heap[w.heap.size]? = some (.cells (rowA (sharesP total parts)) 3 (0,0)) ∧ Below w.heap.size w w' := by
 obtain ⟨n, hn⟩ : ∃ n, parts.length = n := ⟨_, rfl⟩
 have hmk3 := fun W => run_make_row' (P := Tryz.prog) 25 3 (.int .i64 0) 8 Tryz.underlying25 Tryz.info3' rfl .i64 .i64 n (by omega) (by omega) W
 have HP := hidE hp
 have HOK := hidE hok
 have H := hidE h
 have HN := hidE hn
 obtain ⟨Wh, hWh⟩ : ∃ Wh, shWhole parts = Wh := ⟨_, rfl⟩
 have HWH := hidE hWh
 have hW1 : 1 ≤ Wh := by rw [← hWh]; exact shWhole_pos parts
 have hbq : ∀ x ∈ shQuo total parts, 0 ≤ x ∧ x ≤ 100000000000000000 := by
  intro x hx
  obtain ⟨y, hy, rfl⟩ := List.mem_map.1 hx
  have h1 := hp y hy
  have h2 := shWhole_pos parts
  have h3 : 0 ≤ total * y := Int.mul_nonneg ht.1 h1.1
  have h4 : total * y ≤ 100000000000 * 1000000 := Int.mul_le_mul ht.2 h1.2 h1.1 (by decide)
  exact ⟨Int.ediv_nonneg h3 (by omega), Int.le_trans (Int.ediv_le_self _ h3) h4⟩
 have HBQ := hidE hbq
 have HS1 := hidE (fun W hW => sum_any W a cap parts (by omega) hW (fun k hk => by
  have := isum_take_bd (by decide) hp k
  omega))
 have hsb : 0 ≤ isum parts ∧ isum parts ≤ 50000000 := by
  have := isum_take_bd (by decide) hp parts.length
  rw [List.take_length] at this
  omega
 rw [hn] at hl HS1 ⊢
 have hmx : max 1 (isum parts) = Wh := by rw [← hWh]; rfl
 obtain ⟨s, hs⟩ : ∃ s, isum parts = s := ⟨_, rfl⟩
 rw [hs] at HS1 hmx hsb
 have hWle : Wh ≤ 50000000 := by omega
 obtain ⟨A, hA⟩ : ∃ A, A = w.heap.size := ⟨_, rfl⟩
 have HA := hidE hA
 rw [← hA]
 clear h hp hok hWh hbq hn hs
 go_enter Tryz.func89, Tryz.ntmps89
 go_upto_region 3 with fail
 obtain ⟨w3, hw3⟩ : ∃ W, W = (w.alloc (.cells (madeCells #[.int .i64 0] n) 3)).alloc (.cells (madeCells #[.int .i64 0] n) 3) := ⟨_, rfl⟩
 rw [← hw3, ← hA]
 have s1 : (w.alloc (.cells (madeCells #[.int .i64 0] n) 3)).heap.size = A + 1 := by simp [hA]
 have HB := hidE (show Below A w w3 by rw [hw3, hA]; exact ((Below.refl _ _).alloc (Nat.le_refl _) _).alloc (by simp) _)
 have HX0 := hidE (show w3.heap[A]? = some (.cells (rowA (List.replicate n 0)) 3 (0,0)) by rw [hw3, Below.heap_alloc _ _ _ (by rw [s1]; omega), hA, heap_alloc_new, madeInts])
 have HX1 := hidE (show w3.heap[A + 1]? = some (.cells (rowA (List.replicate n 0)) 3 (0,0)) by
  have := heap_alloc_new (w.alloc (.cells (madeCells #[.int .i64 0] n) 3)) (.cells (madeCells #[.int .i64 0] n) 3)
  rw [s1] at this
  rw [hw3, ← madeInts]; exact this)
 clear hmk3 s1 hw3
 have HI3 := hidE (show IntsAt w3 a parts by have := HB.out; rw [HA.out] at this; exact H.out.below this (Nat.le_refl _))
 clear hA
 go_wp2_with fail
 refine (HS1.out w3 HI3.out).mono ?_
 rintro e w4 ⟨rfl, rfl⟩
 go_wp2_with fail
 go_loopw [24] (fun i wr => ∃ k : Nat, k ≤ n ∧ i = .int .i64 k ∧ Hid (wr.heap[A]? = some (.cells (rowA ((parts.take k).map (fun x => total * x / Wh) ++ List.replicate (parts.length - k) 0)) 3 (0,0))) ∧ Hid (wr.heap[A + 1]? = some (.cells (rowA ((parts.take k).map (fun x => total * x % Wh) ++ List.replicate (parts.length - k) 0)) 3 (0,0))) ∧ Hid (Below A w wr)) (fun i _ => n - (intOf i).toNat)
 case atStart => exact ⟨0, Nat.zero_le _, rfl, hidE (by rw [HN.out]; exact HX0.out), hidE (by rw [HN.out]; exact HX1.out), HB⟩
 case round =>
  obtain ⟨k, hk, rfl, HC0, HC1, HBB⟩ := hrel
  obtain ⟨wx, rfl⟩ : ∃ x : World, x = wr := ⟨wr, rfl⟩
  by_cases hlt : k < n
  ·obtain ⟨b, off, rfl, hbl, hc⟩ := H.out.at (show k < parts.length by rw [HN.out]; exact hlt)
   have hbA : b < A := by rw [HA.out]; exact hbl
   rw [← HBB.out.cell hbA] at hc
   have hv := HP.out _ (List.getElem_mem (show k < parts.length by rw [HN.out]; exact hlt))
   have HS0 := hidE (map_take_rep (fun x => total * x / Wh) parts (show k < parts.length by rw [HN.out]; exact hlt))
   have HS2 := hidE (map_take_rep (fun x => total * x % Wh) parts (show k < parts.length by rw [HN.out]; exact hlt))
   obtain ⟨q, hq⟩ : ∃ q, parts[k]'(by rw [HN.out]; exact hlt) = q := ⟨_, rfl⟩
   rw [hq] at hc HS0 HS2 hv
   clear hq
   have HS3 := hidE (show parts.length - k = n - k by rw [HN.out])
   have fa : wx.frozen? ⟨A, k, none⟩ = false := frozen_of_row _ _ _ _ _ HC0.out
   obtain ⟨z0, ca⟩ : ∃ z, wx.cell? ⟨A, k, none⟩ = some (.int .i64 z) := ⟨_, by rw [cell_of_row _ _ _ _ _ _ HC0.out, rowA_get (by have := HN.out; simp; omega)]⟩
   have hp0 : 0 ≤ total * q := Int.mul_nonneg ht.1 hv.1
   have hp1 : total * q ≤ 100000000000000000 := Int.le_trans (Int.mul_le_mul ht.2 hv.2 hv.1 (by decide)) (by decide)
   have hwm : IntKind.i64.wrap (total * q) = total * q := IntWalk.i64_in _ (by omega)
   have hdv : 0 ≤ total * q / Wh ∧ total * q / Wh ≤ 100000000000000000 := ⟨Int.ediv_nonneg hp0 (by omega), Int.le_trans (Int.ediv_le_self _ hp0) hp1⟩
   have hwq : IntKind.i64.wrap (total * q / Wh) = total * q / Wh := IntWalk.i64_in _ (by omega)
   have htd : (total * q).tdiv Wh = total * q / Wh := Int.tdiv_eq_ediv_of_nonneg hp0
   have htm : (total * q).tmod Wh = total * q % Wh := Int.tmod_eq_emod_of_nonneg hp0
   have hmd : 0 ≤ total * q % Wh ∧ total * q % Wh ≤ 100000000000000000 := ⟨Int.emod_nonneg _ (by omega), by have := Int.emod_lt_of_pos (total * q) (show 0 < Wh by omega); omega⟩
   have hwr : IntKind.i64.wrap (total * q % Wh) = total * q % Wh := IntWalk.i64_in _ (by omega)
   have hW0 : ¬ Wh = 0 := by omega
   have hW2 : (Wh == 0) = false := by simpa using hW0
   have hT : True := trivial
   go_upto_region 7 with fail
   refine wp_region_G (S := fun V => True) (T := fun t => decide (14 ≤ t)) (by kernel_rfl) ?_
   refine t_g 0 29 (.slice (some ⟨A, 0, none⟩) n n) rfl (by kernel_rfl) rfl (fun _ _ _ h => h) (fun V hV => ?_) (.inr hT) ?_
   ·simp [go_sem, execOp]
   try simp only [s_a, s_b, s_c]
   refine t_g 1 30 (.int .i64 (k : Int)) rfl (by kernel_rfl) rfl (fun _ _ _ h => h) (fun V hV => ?_) (.inr hT) ?_
   ·simp [go_sem, execOp]
   try simp only [s_a, s_b, s_c]
   refine t_g 2 31 (.slice (some ⟨A + 1, 0, none⟩) n n) rfl (by kernel_rfl) rfl (fun _ _ _ h => h) (fun V hV => ?_) (.inr hT) ?_
   ·simp [go_sem, execOp]
   try simp only [s_a, s_b, s_c]
   refine t_g 3 32 (.int .i64 (k : Int)) rfl (by kernel_rfl) rfl (fun _ _ _ h => h) (fun V hV => ?_) (.inr hT) ?_
   ·simp [go_sem, execOp]
   try simp only [s_a, s_b, s_c]
   refine t_g 4 33 (.int .i64 total) rfl (by kernel_rfl) rfl (fun _ _ _ h => h) (fun V hV => ?_) (.inr hT) ?_
   ·simp [go_sem, execOp]
   try simp only [s_a, s_b, s_c]
   refine t_g 5 34 (.int .i64 q) rfl (by kernel_rfl) rfl (fun _ _ _ h => h) (fun V hV => ?_) (.inr hT) ?_
   ·simp [go_sem, execOp]
   try simp only [s_a, s_b, s_c]
   refine t_g 6 35 (.int .i64 (total * q)) rfl (by kernel_rfl) rfl (fun _ _ _ h => h) (fun V hV => ?_) (.inr hT) ?_
   ·simp [go_sem, execOp, hwm]
   try simp only [s_a, s_b, s_c]
   refine t_g 7 36 (.int .i64 Wh) rfl (by kernel_rfl) rfl (fun _ _ _ h => h) (fun V hV => ?_) (.inr hT) ?_
   ·simp [go_sem, execOp]
   try simp only [s_a, s_b, s_c]
   refine t_g 8 37 (.int .i64 (total * q / Wh)) rfl (by kernel_rfl) rfl (fun _ _ _ h => h) (fun V hV => ?_) (.inr hT) ?_
   ·simp [go_sem, execOp, hwq, htd, hW0]
   try simp only [s_a, s_b, s_c]
   refine t_g 9 38 (.int .i64 total) rfl (by kernel_rfl) rfl (fun _ _ _ h => h) (fun V hV => ?_) (.inr hT) ?_
   ·simp [go_sem, execOp]
   try simp only [s_a, s_b, s_c]
   refine t_g 10 39 (.int .i64 q) rfl (by kernel_rfl) rfl (fun _ _ _ h => h) (fun V hV => ?_) (.inr hT) ?_
   ·simp [go_sem, execOp]
   try simp only [s_a, s_b, s_c]
   refine t_g 11 40 (.int .i64 (total * q)) rfl (by kernel_rfl) rfl (fun _ _ _ h => h) (fun V hV => ?_) (.inr hT) ?_
   ·simp [go_sem, execOp, hwm]
   try simp only [s_a, s_b, s_c]
   refine t_g 12 41 (.int .i64 Wh) rfl (by kernel_rfl) rfl (fun _ _ _ h => h) (fun V hV => ?_) (.inr hT) ?_
   ·simp [go_sem, execOp]
   try simp only [s_a, s_b, s_c]
   refine t_g 13 42 (.int .i64 (total * q % Wh)) rfl (by kernel_rfl) rfl (fun _ _ _ h => h) (fun V hV => ?_) (.inr hT) ?_
   ·simp [go_sem, execOp, htm, hW0]
   try simp only [s_a, s_b, s_c]
   refine wpAnyG_step 14 rfl (by kernel_rfl) (fun K hK => ?_)
   go_simp
   refine hK.out _ _ (.inl ⟨14, rfl, by kernel_rfl⟩) ?_
   clear hK K
   try simp only [Act.put, s_a, s_b, s_c]
   refine wpAnyG_step 15 rfl (by kernel_rfl) (fun K hK => ?_)
   go_simp
   refine hK.out _ _ (.inl ⟨15, rfl, by kernel_rfl⟩) ?_
   clear hK K
   try simp only [Act.put, s_a, s_b, s_c]
   have R1 : ((wx.setCell ⟨A, k, none⟩ (.int .i64 (total * q / Wh))).drew).heap[A + 1]? = some (.cells (rowA ((parts.take k).map (fun x => total * x % Wh) ++ List.replicate (parts.length - k) 0)) 3 (0,0)) := (heap_setCell_other _ _ _ _ (by simp)).trans HC1.out
   have f3 : ((wx.setCell ⟨A, k, none⟩ (.int .i64 (total * q / Wh))).drew).frozen? ⟨A + 1, k, none⟩ = false := frozen_of_row _ _ _ _ _ R1
   obtain ⟨z1, c3⟩ : ∃ z, ((wx.setCell ⟨A, k, none⟩ (.int .i64 (total * q / Wh))).drew).cell? ⟨A + 1, k, none⟩ = some (.int .i64 z) := ⟨_, by rw [cell_of_row _ _ _ _ _ _ R1, rowA_get (by have := HN.out; simp; omega)]⟩
   refine wpAnyG_step 16 rfl (by kernel_rfl) (fun K hK => ?_)
   go_simp
   refine hK.out _ _ (.inl ⟨16, rfl, by kernel_rfl⟩) ?_
   clear hK K
   try simp only [Act.put, s_a, s_b, s_c]
   refine wpAnyG_step 17 rfl (by kernel_rfl) (fun K hK => ?_)
   go_simp
   refine hK.out _ _ (.inl ⟨17, rfl, by kernel_rfl⟩) ?_
   clear hK K
   try simp only [Act.put, s_a, s_b, s_c]
   refine wpAnyG_done (by kernel_rfl) ?_ _
   have HN0 := hidE (show (((wx.setCell ⟨A, k, none⟩ (.int .i64 (total * q / Wh))).setCell ⟨A + 1, k, none⟩ (.int .i64 (total * q % Wh))).drew).heap[A]? = some (.cells (rowA ((parts.take (k + 1)).map (fun x => total * x / Wh) ++ List.replicate (parts.length - (k + 1)) 0)) 3 (0,0)) from (heap_setCell_other _ _ _ _ (by simp)).trans ((heap_setCell_same _ _ _ _ _ _ HC0.out).trans (by rw [rowA_set, HS0.out])))
   have HN1 := hidE (show (((wx.setCell ⟨A, k, none⟩ (.int .i64 (total * q / Wh))).setCell ⟨A + 1, k, none⟩ (.int .i64 (total * q % Wh))).drew).heap[A + 1]? = some (.cells (rowA ((parts.take (k + 1)).map (fun x => total * x % Wh) ++ List.replicate (parts.length - (k + 1)) 0)) 3 (0,0)) from (heap_setCell_same _ _ _ _ _ _ (show (wx.setCell ⟨A, k, none⟩ (.int .i64 (total * q / Wh))).heap[A + 1]? = _ from R1)).trans (by rw [rowA_set, HS2.out]))
   have HN2 := hidE (show Below A w (((wx.setCell ⟨A, k, none⟩ (.int .i64 (total * q / Wh))).setCell ⟨A + 1, k, none⟩ (.int .i64 (total * q % Wh))).drew) from (((HBB.out).setCell (by simp) _).setCell (by simp) _).drew)
   clear R1 c3 ca fa f3 hwm hwq htd htm hwr hW0 hW2 hdv hmd hp0 hp1
   go_wp2_with fail
   go_roundw
   case rel => exact ⟨k + 1, by omega, by go_num, HN0, HN1, HN2⟩
   case measure => simp [intOf]; omega
  ·obtain rfl : k = n := by omega
   have HC0' := hidE (show wx.heap[A]? = some (.cells (rowA (shQuo total parts)) 3 (0,0)) by
    have h1 := HC0.out
    have h2 := HN.out
    rw [← h2, List.take_length, Nat.sub_self] at h1
    rw [h1]; unfold shQuo; rw [HWH.out]; simp)
   have HC1' := hidE (show wx.heap[A + 1]? = some (.cells (rowA (shRem total parts)) 3 (0,0)) by
    have h1 := HC1.out
    have h2 := HN.out
    rw [← h2, List.take_length, Nat.sub_self] at h1
    rw [h1]; unfold shRem; rw [HWH.out]; simp)
   have hLe : total - isum (shQuo total parts) = shLeft total parts := rfl
   have hL0 := shLeft_nonneg HOK.out
   have hL1 := shLeft_le HOK.out
   rw [HN.out] at hL1
   have hql : (shQuo total parts).length = k := by unfold shQuo; rw [List.length_map]; exact HN.out
   have hrl : (shRem total parts).length = k := by unfold shRem; rw [List.length_map]; exact HN.out
   have hol := remOrd_len (shRem total parts)
   rw [hrl] at hol
   have hbs : ∀ j, 0 ≤ isum ((shQuo total parts).take j) ∧ isum ((shQuo total parts).take j) ≤ j * 100000000000000000 := isum_take_bd (by decide) HBQ.out
   have HSUM := hidE (sum_any wx (some ⟨A, 0, none⟩) k (shQuo total parts) (by omega) (.inr ⟨A, 0, rfl, lt_of_block HC0'.out, fun i h => by rw [Nat.zero_add, cell_of_row _ _ _ _ _ _ HC0'.out, rowA_get h, getD_get]⟩) (fun j hj => by have := hbs j; omega))
   have HSRT := hidE (sortedBy_any wx (A + 1) (shRem total parts) k HC1'.out (by omega))
   have HFIN := hidE (show outP (remOrd (shRem total parts)) (shLeft total parts).toNat (shQuo total parts) k = sharesP total parts by unfold outP sharesP; rw [show (remOrd (shRem total parts)).take k = remOrd (shRem total parts) from List.take_of_length_le (by omega)])
   have hq2 : ∀ j, 0 ≤ (shQuo total parts).getD j 0 ∧ (shQuo total parts).getD j 0 ≤ 100000000000000000 := fun j => by
    by_cases hj : j < (shQuo total parts).length
    ·rw [getD_get _ _ hj]; exact HBQ.out _ (List.getElem_mem hj)
    ·rw [List.getD_eq_getElem?_getD, List.getElem?_eq_none (by omega)]; decide
   have HOB := hidE (fun (i j : Nat) => outP_bd (L := (shLeft total parts).toNat) (quo := shQuo total parts) (remOrd_nodup (shRem total parts)) (fun i hi => by rw [hql, ← hrl]; exact remOrd_lt hi) i j)
   have HOP := hidE (fun (i : Nat) (hi : i ∈ remOrd (shRem total parts)) => show i < k by rw [← hrl]; exact remOrd_lt hi)
   rw [hql] at HSUM
   rw [hrl] at HSRT
   obtain ⟨L, hL⟩ : ∃ L : Nat, shLeft total parts = (L : Int) := ⟨(shLeft total parts).toNat, by omega⟩
   have hLt : (shLeft total parts).toNat = L := by omega
   rw [hLt] at HFIN HOB
   rw [hL] at hLe hL1
   obtain ⟨ord, hord⟩ : ∃ o, remOrd (shRem total parts) = o := ⟨_, rfl⟩
   obtain ⟨quo, hquo⟩ : ∃ o, shQuo total parts = o := ⟨_, rfl⟩
   rw [hord] at hol HSRT HFIN HOB HOP
   rw [hquo] at HC0' HSUM HFIN HOB hLe hql hq2
   have HC0K := HC0'
   have HBDQ := hidE hq2
   have HQL := hidE hql
   have HOL := hidE hol
   have gA1 := lt_of_block HC1'.out
   obtain ⟨sq, hsq⟩ : ∃ o, isum quo = o := ⟨_, rfl⟩
   rw [hsq] at HSUM hLe
   clear hL0 hrl hbs hL hLt hord hquo HC0 HC1 HBQ hql hq2 hol hsq HX0 HX1 HI3 H HS1 HP HC0' HOK HWH
   go_wp2_with fail
   refine HSUM.out.mono ?_
   rintro e w5 ⟨rfl, rfl⟩
   go_upto_region 10 with fail
   go_wp2_with fail
   refine (HSRT.out).mono ?_
   rintro e w6 ⟨rfl, hg6, hb6⟩
   obtain ⟨G, hG⟩ : ∃ G, w5.heap.size + 2 = G := ⟨_, rfl⟩
   rw [hG] at hg6 ⊢
   have HG6 := hidE hg6
   have HGE := hidE (show A + 2 ≤ G by omega)
   have HA6 := hidE (blk_below hb6 (by omega) HC0K.out)
   have HB6 := hidE (HBB.out.trans (hb6.mono (by have := HBB.out.size; have := HA.out; omega)))
   clear hg6 hb6 HSRT HSUM HC1' HC0K hG gA1
   go_wp2_with fail
   go_loopw [10, 53] (fun x y wr => ∃ i : Nat, i ≤ k ∧ x = .int .i64 ((L - i : Nat) : Int) ∧ y = .int .i64 i ∧ Hid (wr.heap[A]? = some (.cells (rowA (outP ord L quo i)) 3 (0,0))) ∧ Hid (wr.heap[G]? = some (.cells (rowA (ord.map fun (i : Nat) => (i : Int))) 3 (0,0))) ∧ Hid (Below A w wr)) (fun _ y _ => k - (intOf y).toNat)
   case atStart => exact ⟨0, Nat.zero_le _, by simp, rfl, hidE (by unfold outP; simpa using HA6.out), HG6, HB6⟩
   case round =>
    obtain ⟨i, hi, rfl, rfl, HR, HRG, HRB⟩ := hrel
    obtain ⟨wy, rfl⟩ : ∃ x : World, x = wr := ⟨wr, rfl⟩
    obtain ⟨M, hM⟩ : ∃ M : Nat, L - i = M := ⟨_, rfl⟩
    rw [hM]
    by_cases hik : i < k
    ·have hio : i < ord.length := by have := HOL.out; omega
     have hpk := HOP ord[i] (List.getElem_mem hio)
     have HSU := hidE (outP_succ (ord := ord) (L := L) (quo := quo) (k := i) hio)
     have cg : wy.cell? ⟨G, i, none⟩ = some (.int .i64 (ord[i] : Int)) := by rw [cell_of_row _ _ _ _ _ _ HRG.out, rowA_get (by simpa using hio), getD_get _ _ (by simpa using hio)]; simp
     obtain ⟨p, hp⟩ : ∃ p, ord[i] = p := ⟨_, rfl⟩
     rw [hp] at cg HSU hpk
     have hb1 := HOB.out i p
     have hb2 := HBDQ.out p
     have hol2 := outP_len ord L quo i
     have HPL := hidE (show p < (outP ord L quo i).length by rw [hol2, HQL.out]; exact hpk)
     obtain ⟨v, hv⟩ : ∃ v, (outP ord L quo i).getD p 0 = v := ⟨_, rfl⟩
     have HV := hidE hv
     have ca : wy.cell? ⟨A, p, none⟩ = some (.int .i64 v) := by rw [cell_of_row _ _ _ _ _ _ HR.out, rowA_get HPL.out, hv]
     have fa : wy.frozen? ⟨A, p, none⟩ = false := frozen_of_row _ _ _ _ _ HR.out
     rw [hv] at hb1
     have hwv : IntKind.i64.wrap (v + 1) = v + 1 := IntWalk.i64_in _ (by omega)
     have HGA := hidE (show G ≠ A by have := HGE.out; omega)
     clear hp hb1 hb2 hol2 hv
     by_cases hpos : 0 < M
     ·have HIL := hidE (show i < L by omega)
      have HM := hidE (show L - (i + 1) = M - 1 by omega)
      have hd : decide ((M : Int) > 0) = true := by simp; omega
      have hd2 : decide (0 < M) = true := by simp; omega
      have hm1 : (M : Int) - 1 = ((M - 1 : Nat) : Int) := by omega
      have hM2 : M ≤ 1000 := by omega
      clear hM
      go_wp2_with fail
      go_roundw
      case rel => exact ⟨i + 1, by omega, by rw [HM.out], by go_num, hidE (by rw [heap_setCell_same _ _ _ _ _ _ HR.out, rowA_set, HSU.out, if_pos HIL.out]; unfold bump; rw [HV.out]), hidE ((heap_setCell_other _ _ _ _ HGA.out).trans HRG.out), hidE (HRB.out.setCell (by simp) _)⟩
      case measure => simp [intOf]; omega
     ·have HIL := hidE (show ¬ i < L by omega)
      have HM := hidE (show L - (i + 1) = M by omega)
      obtain rfl : M = 0 := by omega
      clear hM hpos
      go_wp2_with fail
      go_roundw
      case rel => exact ⟨i + 1, by omega, by rw [HM.out], by go_num, hidE (by rw [HSU.out, if_neg HIL.out]; exact HR.out), HRG, HRB⟩
      case measure => simp [intOf]; omega
    ·obtain rfl : i = k := by omega
     go_wp2_with fail
     go_ret
     exact ⟨rfl, by rw [← HFIN.out]; exact HR.out, HRB.out⟩
def checkSharesP (total : Int) (parts : List Int) : Int := if 50 < parts.length then 2 else if inR total 0 100000000000 = false ∨ (parts.all fun v => inR v 0 1000000) = false then 1 else if isum parts = 0 ∧ total ≠ 0 then 51 else 0
theorem checkShares1_any (w : World) (v : Int) : Calls Tryz.prog 150 #[.int .i64 v] w fun e w' => e = .returned (.bool (inR v 0 1000000)) ∧ w = w' := by
 go_enter Tryz.func150, Tryz.ntmps150
 go_wp2_with (go_at_call 86; refine (in_any _ _ _ _).mono ?_; rintro e w' ⟨rfl, rfl⟩)
 go_ret
 exact ⟨rfl, rfl⟩
theorem checkShares_ok {total : Int} {parts : List Int} (h : checkSharesP total parts = 0) : parts.length ≤ 50 ∧ (0 ≤ total ∧ total ≤ 100000000000) ∧ (∀ x ∈ parts, 0 ≤ x ∧ x ≤ 1000000) ∧ ShOk total parts := by
 unfold checkSharesP at h
 by_cases h1 : 50 < parts.length
 ·rw [if_pos h1] at h; cases h
 rw [if_neg h1] at h
 by_cases h2 : inR total 0 100000000000 = false ∨ (parts.all fun v => inR v 0 1000000) = false
 ·rw [if_pos h2] at h; cases h
 rw [if_neg h2] at h
 by_cases h3 : isum parts = 0 ∧ total ≠ 0
 ·rw [if_pos h3] at h; cases h
 have ht : 0 ≤ total ∧ total ≤ 100000000000 := by
  have : inR total 0 100000000000 = true := by
   cases hq : inR total 0 100000000000 with
   | true => rfl
   | false => exact absurd (.inl hq) h2
  unfold inR at this
  simpa using this
 have hp : ∀ x ∈ parts, 0 ≤ x ∧ x ≤ 1000000 := by
  have : (parts.all fun v => inR v 0 1000000) = true := by
   cases hq : (parts.all fun v => inR v 0 1000000) with
   | true => rfl
   | false => exact absurd (.inr hq) h2
  intro x hx
  have := List.all_eq_true.1 this x hx
  unfold inR at this
  simpa using this
 have h0 := isum_nonneg (fun x hx => (hp x hx).1)
 exact ⟨by omega, ht, hp, ht.1, fun x hx => (hp x hx).1, by omega⟩
set_option maxHeartbeats 2000000 in
theorem checkShares_any (w : World) (total : Int) (a : Option Addr) (cap : Nat) (parts : List Int) (hl : parts.length ≤ 9223372036854775807) (h : IntsAt w a parts) :
 Calls Tryz.prog 83 #[.int .i64 total, .slice a parts.length cap] w fun e w' => e = .returned (.int .i64 (checkSharesP total parts)) ∧ Below w.heap.size w w' := by
 have HALL := hidE (all_any w a cap parts 150 #[] (fun v => inR v 0 1000000) hl h (fun k hk W hb => (checkShares1_any W parts[k]).mono fun _ _ ⟨he, hw⟩ => ⟨he, hw ▸ Below.refl _ _⟩) (enters_of Tryz.func150 (by kernel_rfl) rfl))
 obtain ⟨P, hP⟩ : ∃ P, checkSharesP total parts = P := ⟨_, rfl⟩
 rw [hP]
 by_cases h1 : 50 < parts.length
 ·unfold checkSharesP at hP
  rw [if_pos h1] at hP
  subst hP
  have hd : decide ((parts.length : Int) > 50) = true := by simp; omega
  clear h HALL
  go_enter Tryz.func83, Tryz.ntmps83
  go_wp2_with fail
  go_ret
  exact ⟨rfl, Below.refl _ _⟩
 ·have hd : decide ((parts.length : Int) > 50) = false := by simp; omega
  have hd2 : decide (50 < parts.length) = false := by simp; omega
  cases hq : inR total 0 100000000000 with
  | false =>
    unfold checkSharesP at hP
    rw [if_neg h1, if_pos (.inl hq)] at hP
    subst hP
    have HI := hidE (fun W => in_at hq W)
    clear h HALL hq
    go_enter Tryz.func83, Tryz.ntmps83
    go_wp2_with fail
    refine (HI.out _).mono ?_
    rintro e w1 ⟨rfl, rfl⟩
    go_wp2_with fail
    go_ret
    exact ⟨rfl, Below.refl _ _⟩
  | true =>
    have HI := hidE (fun W => in_at hq W)
    cases hr : (parts.all fun v => inR v 0 1000000) with
    | false =>
      unfold checkSharesP at hP
      rw [if_neg h1, if_pos (.inr hr)] at hP
      subst hP
      rw [hr] at HALL
      clear h hr hq
      go_enter Tryz.func83, Tryz.ntmps83
      go_wp2_with fail
      refine (HI.out _).mono ?_
      rintro e w1 ⟨rfl, rfl⟩
      go_wp2_with fail
      refine HALL.out.mono ?_
      rintro e w2 ⟨rfl, hb⟩
      go_wp2_with fail
      go_ret
      exact ⟨rfl, hb⟩
    | true =>
      have hp : ∀ x ∈ parts, 0 ≤ x ∧ x ≤ 1000000 := by
       intro x hx
       have := List.all_eq_true.1 hr x hx
       unfold inR at this
       simpa using this
      have HSM := hidE (fun W hW => sum_any W a cap parts (by omega) hW (fun k hk => by
       have := isum_take_bd (by decide) hp k
       omega))
      have H := hidE h
      unfold checkSharesP at hP
      rw [if_neg h1, if_neg (by rw [hq, hr]; simp)] at hP
      rw [hr] at HALL
      obtain ⟨s, hs⟩ : ∃ s, isum parts = s := ⟨_, rfl⟩
      rw [hs] at hP HSM
      clear h hr hq hp hs
      by_cases hs0 : s = 0
      ·subst hs0
       by_cases ht0 : total = 0
       ·subst ht0
        rw [if_neg (by simp)] at hP
        subst hP
        go_enter Tryz.func83, Tryz.ntmps83
        go_wp2_with fail
        refine (HI.out _).mono ?_
        rintro e w1 ⟨rfl, rfl⟩
        go_wp2_with fail
        refine HALL.out.mono ?_
        rintro e w2 ⟨rfl, hb⟩
        have HB := hidE hb
        have H2 := hidE (H.out.below hb (Nat.le_refl _))
        clear hb
        go_wp2_with fail
        refine (HSM.out _ H2.out).mono ?_
        rintro e w3 ⟨rfl, rfl⟩
        go_wp2_with fail
        go_ret
        exact ⟨rfl, HB.out⟩
       ·rw [if_pos ⟨rfl, ht0⟩] at hP
        subst hP
        have ht1 : (total != 0) = true := by simpa using ht0
        go_enter Tryz.func83, Tryz.ntmps83
        go_wp2_with fail
        refine (HI.out _).mono ?_
        rintro e w1 ⟨rfl, rfl⟩
        go_wp2_with fail
        refine HALL.out.mono ?_
        rintro e w2 ⟨rfl, hb⟩
        have HB := hidE hb
        have H2 := hidE (H.out.below hb (Nat.le_refl _))
        clear hb
        go_wp2_with fail
        refine (HSM.out _ H2.out).mono ?_
        rintro e w3 ⟨rfl, rfl⟩
        go_wp2_with fail
        go_ret
        exact ⟨rfl, HB.out⟩
      ·rw [if_neg (fun h => hs0 h.1)] at hP
       subst hP
       have hs1 : (s == 0) = false := by simpa using hs0
       go_enter Tryz.func83, Tryz.ntmps83
       go_wp2_with fail
       refine (HI.out _).mono ?_
       rintro e w1 ⟨rfl, rfl⟩
       go_wp2_with fail
       refine HALL.out.mono ?_
       rintro e w2 ⟨rfl, hb⟩
       have HB := hidE hb
       have H2 := hidE (H.out.below hb (Nat.le_refl _))
       clear hb
       go_wp2_with fail
       refine (HSM.out _ H2.out).mono ?_
       rintro e w3 ⟨rfl, rfl⟩
       go_wp2_with fail
       go_ret
       exact ⟨rfl, HB.out⟩
def ListErr (l : List Int) (err : Int) (base : Nat) (e : Ending) (w' : World) : Prop := ∃ v, e = .returned (.tuple #[v, .int .i64 err]) ∧ w'.ownsRow base 3 1 v l.length (intsV l)
def sharesE (total : Int) (parts : List Int) : List Int × Int := if checkSharesP total parts = 0 then (sharesP total parts, 0) else ([], checkSharesP total parts)
set_option maxHeartbeats 2000000 in
theorem sharesE_any (w : World) (total : Int) (a : Option Addr) (cap : Nat) (parts : List Int) (hl : parts.length ≤ 9223372036854775807) (h : IntsAt w a parts) :
 Calls Tryz.prog 41 #[.int .i64 total, .slice a parts.length cap] w fun e w' => ListErr (sharesE total parts).1 (sharesE total parts).2 w.heap.size e w' ∧ Below w.heap.size w w' := by
 have HC := hidE (checkShares_any w total a cap parts hl h)
 have H := hidE h
 obtain ⟨Q, hQ⟩ : ∃ Q, sharesE total parts = Q := ⟨_, rfl⟩
 rw [hQ]
 clear h
 by_cases hz : checkSharesP total parts = 0
 ·obtain ⟨h1, h2, h3, h4⟩ := checkShares_ok hz
  unfold sharesE at hQ
  rw [if_pos hz] at hQ
  subst hQ
  rw [hz] at HC
  have HS := hidE (fun W hW => shares_any W total a cap parts h1 hW h2 h3 h4)
  have HLEN := hidE (sharesP_len total parts)
  have hl2 := h1
  clear hz h1 h2 h3 h4
  go_enter Tryz.func41, Tryz.ntmps41
  go_wp2_with fail
  refine HC.out.mono ?_
  rintro e w1 ⟨rfl, hb⟩
  have HB := hidE hb
  have H1 := hidE (H.out.below hb (Nat.le_refl _))
  clear hb
  go_wp2_with fail
  refine (HS.out _ H1.out).mono ?_
  rintro e w2 ⟨rfl, hg, hb⟩
  have HO := hidE (owns_of_block (base := w.heap.size) HB.out.size hg (by rw [HLEN.out]; omega))
  have HB2 := hidE (HB.out.trans (hb.mono HB.out.size))
  clear hg hb
  go_wp2_with fail
  go_ret2
  exact ⟨⟨_, rfl, by have := HO.out; rw [HLEN.out] at this ⊢; exact this⟩, HB2.out⟩
 ·unfold sharesE at hQ
  rw [if_neg hz] at hQ
  subst hQ
  obtain ⟨z, hz2⟩ : ∃ z, checkSharesP total parts = z := ⟨_, rfl⟩
  rw [hz2] at hz HC
  have hz3 : (z != 0) = true := by simpa using hz
  have HZ := hidE hz2
  clear hz2
  go_enter Tryz.func41, Tryz.ntmps41
  go_wp2_with fail
  refine HC.out.mono ?_
  rintro e w1 ⟨rfl, hb⟩
  have HB := hidE hb
  clear hb
  go_wp2_with fail
  go_ret2
  exact ⟨⟨.slice none 0 0, by rw [HZ.out]; rfl, World.ownsRow_nil _ _ _ _⟩, HB.out⟩
theorem same_any (w : World) (a : Option Addr) (cap : Nat) (xs : List Int) (a2 : Option Addr) (cap2 : Nat) (ys : List Int) (hl : xs.length ≤ 9223372036854775807) (_hl2 : ys.length ≤ 9223372036854775807) (h : IntsAt w a xs) (h2 : IntsAt w a2 ys) :
 Calls Tryz.prog 32 #[.slice a xs.length cap, .slice a2 ys.length cap2] w fun e w' => e = .returned (.bool (decide (xs = ys))) ∧ w' = w := by
 have H := hidE h
 have H2 := hidE h2
 clear h h2
 by_cases hlen : xs.length = ys.length
 ·obtain ⟨P, hP⟩ : ∃ P, decide (xs = ys) = P := ⟨_, rfl⟩
  rw [hP]
  have HP := hidE hP
  have HLY := hidE hlen.symm
  have hne : ((xs.length : Int) != (ys.length : Int)) = false := by simp [hlen]
  rw [← hlen] at hne ⊢
  clear hP hlen _hl2
  go_enter Tryz.func32, Tryz.ntmps32
  go_wp2_with fail
  go_loopw [14] (fun i wr => ∃ k : Nat, k ≤ xs.length ∧ i = .int .i64 k ∧ Hid (∀ j, j < k → xs.getD j 0 = ys.getD j 0) ∧ wr = w) (fun i _ => xs.length - (intOf i).toNat)
  case atStart => exact ⟨0, Nat.zero_le _, rfl, hidE (fun j h => by omega), rfl⟩
  case round =>
   obtain ⟨k, hk, rfl, HF, rfl⟩ := hrel
   by_cases hlt : k < xs.length
   ·have hlt2 : k < ys.length := by rw [HLY.out]; exact hlt
    obtain ⟨b, off, rfl, hbl, hc⟩ := H.out.at hlt
    obtain ⟨b2, off2, rfl, hbl2, hc2⟩ := H2.out.at hlt2
    have g1 := getD_get xs 0 hlt
    have g2 := getD_get ys 0 hlt2
    obtain ⟨x, hx⟩ : ∃ x, xs[k] = x := ⟨_, rfl⟩
    obtain ⟨y, hy⟩ : ∃ y, ys[k] = y := ⟨_, rfl⟩
    rw [hx] at hc g1
    rw [hy] at hc2 g2
    have HG1 := hidE g1
    have HG2 := hidE g2
    clear hx hy g1 g2 hlt2
    by_cases hxy : x = y
    ·have hq : (x != y) = false := by simpa using hxy
     have HF2 := hidE (fun j (hj : j < k + 1) => show xs.getD j 0 = ys.getD j 0 by
      by_cases hjk : j < k
      ·exact HF.out j hjk
      ·obtain rfl : j = k := by omega
       rw [HG1.out, HG2.out, hxy])
     clear hxy
     go_wp2_with fail
     go_roundw
     case rel => first | exact ⟨k + 1, by omega, by go_num, HF2, rfl⟩ | exact ⟨k + 1, by omega, by go_num, HF2, trivial⟩
     case measure => simp [intOf]; omega
    ·have hq : (x != y) = true := by simpa using hxy
     have HPF := hidE (show P = false by
      rw [← HP.out, decide_eq_false_iff_not]
      intro e
      rw [e] at HG1
      exact hxy (HG1.out.symm.trans HG2.out))
     clear hxy
     go_wp2_with fail
     go_ret
     exact ⟨by rw [HPF.out]; rfl, rfl⟩
   ·obtain rfl : k = xs.length := by omega
    have HPT := hidE (show P = true by
     rw [← HP.out, decide_eq_true_eq]
     refine List.ext_getElem HLY.out.symm fun j j1 j2 => ?_
     have := HF.out j j1
     rwa [getD_get _ _ j1, getD_get _ _ j2] at this)
    go_wp2_with fail
    go_ret
    exact ⟨by rw [HPT.out]; rfl, rfl⟩
 ·have HPF := hidE (show decide (xs = ys) = false by
   rw [decide_eq_false_iff_not]
   intro e
   exact hlen (by rw [e]))
  have hne : ((xs.length : Int) != (ys.length : Int)) = true := by simp; omega
  clear hlen
  go_enter Tryz.func32, Tryz.ntmps32
  go_wp2_with fail
  go_ret
  exact ⟨by rw [HPF.out]; rfl, rfl⟩
end Go.Proofs.YthjmkmjojlfejaaGreat
namespace Go.Proofs.YthjmkmjojlfejaaGreat
theorem isum_ord (rest : List Int) : isum ((remOrd rest).map fun i => rest.getD i 0) = isum rest := by
 have h1 : ((remOrd rest).map fun i => rest.getD i 0).Perm ((List.range rest.length).map fun i => rest.getD i 0) := (remOrd_perm rest).map _
 rw [isum_perm h1]
 congr 1
 apply List.ext_getElem
 ·simp
 ·intro i h2 h3
  simp [List.getD_eq_getElem?_getD, h3]
theorem ord_pos {total : Int} {parts : List Int} (h : ShOk total parts) {k : Nat} (hk : (k : Int) < shLeft total parts) (hkl : k < (remOrd (shRem total parts)).length) : 0 < (shRem total parts).getD (remOrd (shRem total parts))[k] 0 := by
 obtain ⟨rest, hr⟩ : ∃ r, shRem total parts = r := ⟨_, rfl⟩
 have hbd : ∀ i, 0 ≤ rest.getD i 0 ∧ rest.getD i 0 < shWhole parts := fun i => by
  have hw := shWhole_pos parts
  rw [List.getD_eq_getElem?_getD]
  by_cases hi : i < rest.length
  ·rw [List.getElem?_eq_getElem hi]
   exact shRem_bd (total := total) (by rw [hr]; exact List.getElem_mem hi)
  ·rw [List.getElem?_eq_none (by omega)]
   simp only [Option.getD_none]; omega
 have hsum := shRem_sum h
 simp only [hr] at hsum hkl ⊢
 obtain ⟨ord, ho⟩ : ∃ o, remOrd rest = o := ⟨_, rfl⟩
 have hs := isum_ord rest
 have hsorted := remOrd_sorted rest
 simp only [ho] at hs hsorted hkl ⊢
 apply Classical.byContradiction
 intro hn
 have h0 : rest.getD ord[k] 0 = 0 := by have := (hbd ord[k]).1; omega
 have hz : isum ((ord.drop k).map fun i => rest.getD i 0) = 0 := by
  have : ∀ x ∈ (ord.drop k).map fun i => rest.getD i 0, x ≤ 0 := by
   intro x hx
   obtain ⟨i, hi, rfl⟩ := List.mem_map.1 hx
   obtain ⟨m, hm, rfl⟩ := List.getElem_of_mem hi
   rw [List.getElem_drop]
   rw [List.length_drop] at hm
   rcases Nat.eq_zero_or_pos m with q | q
   ·subst q; simp only [Nat.add_zero]; omega
   ·have := List.pairwise_iff_getElem.1 hsorted k (k + m) hkl (by omega) (by omega)
    simp only [remLe, Bool.or_eq_true, Bool.and_eq_true, decide_eq_true_eq] at this
    omega
  have h1 := isum_le this
  have h2 := isum_nonneg (l := (ord.drop k).map fun i => rest.getD i 0) fun x hx => by
   obtain ⟨i, _, rfl⟩ := List.mem_map.1 hx
   exact (hbd i).1
  omega
 have hlt : isum ((ord.take k).map fun i => rest.getD i 0) ≤ k * (shWhole parts - 1) := by
  have := isum_le (l := (ord.take k).map fun i => rest.getD i 0) (c := shWhole parts - 1) fun x hx => by
   obtain ⟨i, _, rfl⟩ := List.mem_map.1 hx
   have := (hbd i).2; omega
  rw [List.length_map, List.length_take, Nat.min_eq_left (by omega)] at this
  exact this
 have hsplit : isum (ord.map fun i => rest.getD i 0) = isum ((ord.take k).map fun i => rest.getD i 0) + isum ((ord.drop k).map fun i => rest.getD i 0) := by
  rw [← isum_append, ← List.map_append, List.take_append_drop]
 have hw := shWhole_pos parts
 rw [hs, hsum, hz] at hsplit
 have h3 : (k : Int) * (shWhole parts - 1) ≤ k * shWhole parts := Int.mul_le_mul_of_nonneg_left (by omega) (by omega)
 have h4 : ((k : Int) + 1) * shWhole parts ≤ shLeft total parts * shWhole parts := Int.mul_le_mul_of_nonneg_right (by omega) (by omega)
 rw [Int.add_mul] at h4
 omega
end Go.Proofs.YthjmkmjojlfejaaGreat
namespace Go.Proofs.YthjmkmjojlfejaaGreat
open Go Go.RowKit Go.Shelf
def Apart (u v : Value) : Prop := ∀ q, u.ownBlock = some q → v.ownBlock ≠ some q
theorem Apart.symm {u v : Value} (h : Apart u v) : Apart v u := fun q e1 e2 => h q e2 e1
theorem append_int {w : World} {base : Nat} {v : Value} {l : List Int} (hown : w.ownsRow base 3 1 v l.length (intsV l)) (x : Int) (hx : l.length ≤ 100000) (hb : base ≤ w.heap.size) :
 ∃ v' w', (Builtin.append_ #[25, 25] 25 #[v, .slice (some ⟨w.heap.size, 0, none⟩) 1 1]).run Tryz.prog (w.alloc (.cells #[.int .i64 x] 3)) = .ok v' w' ∧ w'.ownsRow base 3 1 v' (l ++ [x]).length (intsV (l ++ [x])) ∧ Below base w w' ∧
  (∀ (u : Value) (lu : List Int), w.ownsRow base 3 1 u lu.length (intsV lu) → Apart u v → w'.ownsRow base 3 1 u lu.length (intsV lu) ∧ Apart u v') := by
 have own3 := hown.alloc (.cells #[.int .i64 x] 3)
 obtain ⟨i0, hi, hz0, hz1, hz2⟩ := info_parts Tryz.info3'
 have hnews : ∀ j u, [Value.int .i64 x][j]? = some u → (w.alloc (.cells #[.int .i64 x] 3)).cell? ((⟨w.heap.size, 0, none⟩ : Addr).add j) = some u := by
  intro j u hj
  rw [show ((⟨w.heap.size, 0, none⟩ : Addr).add j) = ⟨w.heap.size, 0 + j, none⟩ from by unfold Addr.add; split <;> simp_all]
  rw [cell_of_row _ _ _ _ _ _ (heap_alloc_new w (.cells #[.int .i64 x] 3)), Nat.zero_add]
  simpa using hj
 obtain ⟨v', w', hrun, h2, h3, _, h5⟩ := run_append_own_at (P := Tryz.prog) (w.alloc (.cells #[.int .i64 x] 3)) base 25 25 3 i0 _ 1 8 Tryz.underlying25 hi hz0 hz1 hz2 rfl (by decide) v _ _ own3 ⟨w.heap.size, 0, none⟩ 1 1 [.int .i64 x] rfl hnews (by intro u hu; simp at hu; subst hu; rfl) (by unfold maxLen; omega) (by omega) (by simp; omega)
 refine ⟨v', w', hrun, by simpa [intsV] using h2, ?_, fun u lu hu hap => ⟨(hu.alloc _).kept h3 ?_, fun q hq e => ?_⟩⟩
 ·refine (((Below.refl base w).alloc hb _).grown h3 (by simp; omega) (fun q e => ?_))
  exact (hown.lt q e).1
 ·cases hq : u.ownBlock with
  | none => exact .inl rfl
  | some q => exact .inr (fun e => hap q hq e.symm)
 ·rcases h5 with h5 | h5
  ·rw [h5] at e; exact hap q hq e
  ·rw [h5] at e
   have h6 := (hu.lt q hq).2
   simp only [Option.some.injEq] at e
   have h7 : (w.alloc (.cells #[.int .i64 x] 3)).heap.size = w.heap.size + 1 := by simp
   omega
end Go.Proofs.YthjmkmjojlfejaaGreat
namespace Go.Proofs.YthjmkmjojlfejaaGreat
def gsOf (y : List Int) (t : Str) : Gs := ⟨t.west, t.east, getI y t.no - getI y t.so, getI y t.fno - getI y t.fso⟩
def grP (F : Fld) (y : List Int) (p : Par) : List Gs := (stripsP F p).map (gsOf y)
def wideB (t : Gs) : Bool := inR t.w 0 1000000
def wideE (t : Gs) : Bool := inR t.e 0 1000000
def uprightE (F : Fld) (y : List Int) (i : Int) : Int :=
 if fieldedE F [i] ≠ 0 then fieldedE F [i] else if valuesB F.points y = false then 1
 else if (grP F y (F.par i)).all wideB = false ∨ (grP F y (F.par i)).all wideE = false then 1 else 0
def lowest (n : Int × Int) : Int × Int := (n.1.tdiv (Nat.gcd n.1.toNat n.2.toNat : Nat), n.2.tdiv (Nat.gcd n.1.toNat n.2.toNat : Nat))
def westE (F : Fld) (y : List Int) (i x : Int) : (Int × Int) × Int :=
 if uprightE F y i ≠ 0 then ((0, 0), uprightE F y i)
 else if inR x (fromP (grP F y (F.par i))) (toP (grP F y (F.par i))) = false then ((0, 0), 1)
 else (lowest (partP (grP F y (F.par i)) x), 0)
def cutE (F : Fld) (y : List Int) (i m : Int) : Int × Int :=
 if uprightE F y i ≠ 0 then (0, uprightE F y i)
 else if inR m 0 (wholeP (grP F y (F.par i))) = false then (0, 51)
 else (cutP (grP F y (F.par i)) m, 0)
theorem grP_len (F : Fld) (y : List Int) (p : Par) : (grP F y p).length = (p.est - p.wst).toNat := by unfold grP; rw [List.length_map]; exact stripsTo_len _ _ _
theorem grP_get (F : Fld) (y : List Int) (p : Par) {k : Nat} (hk : k < (grP F y p).length) : (grP F y p)[k] = gsOf y (stripP F p (p.wst.toNat + k)) := by
 have hk2 : k < (stripsP F p).length := by simpa [grP] using hk
 have e : (grP F y p)[k] = gsOf y ((stripsP F p)[k]) := by simp only [grP, List.getElem_map]
 rw [e, stripsP_get F p hk2]
theorem inR_iff {n a b : Int} : inR n a b = true ↔ a ≤ n ∧ n ≤ b := by unfold inR; simp
theorem up_ok {F : Fld} {y : List Int} {p : Par} (hz : F.check = 0) (hp : p.inside F) (hw : (grP F y p).all wideB = true) (he : (grP F y p).all wideE = true) : GrOk (grP F y p) := by
 obtain ⟨q1, q2, q3, q4, q5⟩ := hp
 have hl := check0_len hz
 have hlen := grP_len F y p
 refine ⟨by omega, by omega, fun t ht => ?_, fun i hi => ?_⟩
 ·have h1 := List.all_eq_true.1 hw t ht
  have h2 := List.all_eq_true.1 he t ht
  unfold wideB at h1
  unfold wideE at h2
  rw [inR_iff] at h1 h2
  refine ⟨?_, h1, h2⟩
  obtain ⟨k, hk, rfl⟩ := List.getElem_of_mem ht
  rw [grP_get F y p hk]
  have hk2 : p.wst.toNat + k + 1 < F.sts.length := by omega
  have x1 := check0_x hz (k := p.wst.toNat + k) (by omega)
  have x2 := check0_x hz hk2
  have x3 := check0_up hz hk2
  exact ⟨x1.1, x3, x2.2⟩
 ·rw [grP_get F y p hi, grP_get F y p (by omega)]
  rfl
theorem upright_ok {F : Fld} {y : List Int} {i : Int} (h : uprightE F y i = 0) : fieldedE F [i] = 0 ∧ valuesB F.points y = true ∧ GrOk (grP F y (F.par i)) ∧ (F.par i).inside F ∧ F.check = 0 := by
 unfold uprightE at h
 split at h
 ·rename_i h1; exact absurd h h1
 ·rename_i h1
  split at h
  ·cases h
  ·rename_i h2
   split at h
   ·cases h
   ·rename_i h3
    simp only [ne_eq, Decidable.not_not] at h1
    obtain ⟨hc, n, rfl, hn, hpar⟩ := fielded_one h1
    have hin : (F.par n).inside F := by rw [hpar]; exact check0_inside hc (List.getElem_mem hn)
    have hw : (grP F y (F.par n)).all wideB = true := by
     cases q : (grP F y (F.par n)).all wideB with
     | true => rfl
     | false => exact absurd (.inl q) h3
    have he : (grP F y (F.par n)).all wideE = true := by
     cases q : (grP F y (F.par n)).all wideE with
     | true => rfl
     | false => exact absurd (.inr q) h3
    exact ⟨h1, by simpa using h2, up_ok hc hin hw he, hin, hc⟩
end Go.Proofs.YthjmkmjojlfejaaGreat
namespace Go.Proofs.YthjmkmjojlfejaaGreat
open Go Go.RowKit Go.Shelf
structure GrAt (w : World) (gb : Nat) (L : List Str) (G : List Gs) : Prop where
 len : L.length = G.length
 ends : ∀ k (h : k < G.length) (h2 : k < L.length), L[k].west = G[k].a ∧ L[k].east = G[k].b
 at_ : ∃ aL cL aW cW aE cE, w.heap[gb]? = some (.cells #[.slice aL G.length cL, .slice aW G.length cW, .slice aE G.length cE] 177 (0,0)) ∧ RecsAt 6 Str.cells w aL L ∧ IntsAt w aW (G.map Gs.w) ∧ IntsAt w aE (G.map Gs.e)
theorem GrAt.below {w w' : World} {gb : Nat} {L : List Str} {G : List Gs} (h : GrAt w gb L G) (hb : Below w.heap.size w w') : GrAt w' gb L G := by
 obtain ⟨aL, cL, aW, cW, aE, cE, h1, h2, h3, h4⟩ := h.at_
 exact ⟨h.len, h.ends, aL, cL, aW, cW, aE, cE, blk_below hb (lt_of_block h1) h1, h2.below hb (Nat.le_refl _), h3.below hb (Nat.le_refl _), h4.below hb (Nat.le_refl _)⟩
set_option maxHeartbeats 1000000 in
theorem divisor_any (m n : Nat) (w : World) (_hm : (m : Int) ≤ 9223372036854775807) (hn : (n : Int) ≤ 9223372036854775807) : Calls Tryz.prog 103 #[.int .i64 m, .int .i64 n] w fun e w' => e = .returned (.int .i64 (Nat.gcd m n : Nat)) ∧ Below w.heap.size w w' := by
 go_enter Tryz.func103, Tryz.ntmps103
 go_wp2_with fail
 go_loopw [0, 1] (fun a b wr => ∃ p q : Nat, a = .int .i64 p ∧ b = .int .i64 q ∧ Hid (Nat.gcd p q = Nat.gcd m n) ∧ Below w.heap.size w wr ∧ (q : Int) ≤ 9223372036854775807) (fun _ b _ => (intOf b).toNat)
 case atStart => exact ⟨m, n, rfl, rfl, hidE rfl, Below.refl _ _, hn⟩
 case round =>
  obtain ⟨p, q, rfl, rfl, HG, hb, hq9⟩ := hrel
  by_cases hq : q = 0
  ·subst hq
   have HB := hidE hb
   clear hb
   have d1 : (((0 : Nat) : Int) != 0) = false := by decide
   go_wp2_with fail
   go_ret
   exact ⟨by rw [← HG.out, Nat.gcd_zero_right]; rfl, HB.out⟩
  ·have d1 : ((q : Int) != 0) = true := by simp; omega
   have d2 : ((q : Int) == 0) = false := by simp; omega
   have HB := hidE hb
   have t1 : Int.tmod (p : Int) (q : Int) = ((p % q : Nat) : Int) := by rw [Int.ofNat_tmod]
   have hlt := Nat.mod_lt p (Nat.pos_of_ne_zero hq)
   obtain ⟨r, hr⟩ : ∃ r, p % q = r := ⟨_, rfl⟩
   have HG2 := hidE (show Nat.gcd q r = Nat.gcd m n by rw [← hr, ← HG.out, Nat.gcd_comm, ← Nat.gcd_rec, Nat.gcd_comm])
   rw [hr] at t1 hlt
   have w1 : IntKind.i64.wrap (r : Int) = (r : Int) := IntWalk.i64_in _ (by omega)
   clear hr hb HG
   go_wp2_with fail
   go_quiet (fail)
   go_wp2_with fail
   go_roundw
   case rel => exact ⟨q, r, rfl, rfl, HG2, HB.out.trans (below_drewN' _ _), by omega⟩
   case measure => simp [intOf]; omega
theorem from_any (w : World) (gb : Nat) (L : List Str) (G : List Gs) (h : GrAt w gb L G) (h0 : 0 < G.length) : Calls Tryz.prog 100 #[.pointer (some ⟨gb, 0, none⟩)] w fun e w' => e = .returned (.int .i64 (fromP G)) ∧ w' = w := by
 obtain ⟨aL, cL, aW, cW, aE, cE, h1, h2, h3, h4⟩ := h.at_
 have c0 : w.cell? ⟨gb, 0, none⟩ = some (.slice aL G.length cL) := c_e h1 rfl
 obtain ⟨b, off, rfl, hbl, hc⟩ := h2.at (i := 0) (by rw [h.len]; exact h0)
 have e0 := hc 0 (by omega)
 have he := (h.ends 0 h0 (by rw [h.len]; exact h0)).1
 have hf : fromP G = G[0].a := by unfold fromP; rw [List.getD_eq_getElem?_getD, List.getElem?_eq_getElem h0]; rfl
 simp only [Nat.zero_mul, Nat.add_zero] at e0
 have e1 : w.cell? ⟨b, off, none⟩ = some (.int .i64 (fromP G)) := by rw [e0, hf, ← he]; rfl
 obtain ⟨n, hn⟩ : ∃ n, n = G.length := ⟨_, rfl⟩
 rw [← hn] at c0 h0
 obtain ⟨z, hz⟩ : ∃ z, fromP G = z := ⟨_, rfl⟩
 rw [hz] at e1 ⊢
 clear h h1 h2 h3 h4 hc e0 he hf hz hn
 go_enter Tryz.func100, Tryz.ntmps100
 go_wp2
 go_ret
 exact ⟨rfl, rfl⟩
theorem to_any (w : World) (gb : Nat) (L : List Str) (G : List Gs) (h : GrAt w gb L G) (h0 : 0 < G.length) (hs : G.length ≤ 12) : Calls Tryz.prog 101 #[.pointer (some ⟨gb, 0, none⟩)] w fun e w' => e = .returned (.int .i64 (toP G)) ∧ Below w.heap.size w w' := by
 obtain ⟨aL, cL, aW, cW, aE, cE, h1, h2, h3, h4⟩ := h.at_
 have c0 : w.cell? ⟨gb, 0, none⟩ = some (.slice aL G.length cL) := c_e h1 rfl
 obtain ⟨n, hn⟩ : ∃ n, G.length = n + 1 := ⟨G.length - 1, by omega⟩
 obtain ⟨b, off, rfl, hbl, hc⟩ := h2.at (i := n) (by rw [h.len]; omega)
 have e0 := hc 1 (by omega)
 have he := (h.ends n (by omega) (by rw [h.len]; omega)).2
 have hf : toP G = (G[n]'(by omega)).b := by unfold toP; rw [show G.length - 1 = n by omega, List.getD_eq_getElem?_getD, List.getElem?_eq_getElem (by omega)]; rfl
 have e1 : w.cell? ⟨b, off + n * 6 + 1, none⟩ = some (.int .i64 (toP G)) := by rw [e0, hf, ← he]; rfl
 rw [hn] at c0 hs
 have m1 : ((n + 1 : Nat) : Int) - 1 = (n : Int) := by omega
 have w1 : IntKind.i64.wrap ((n : Int)) = (n : Int) := IntWalk.i64_in _ (by omega)
 obtain ⟨z, hz⟩ : ∃ z, toP G = z := ⟨_, rfl⟩
 rw [hz] at e1 ⊢
 clear h h0 h1 h2 h3 h4 hc e0 he hf hz hn
 go_enter Tryz.func101, Tryz.ntmps101
 go_wp2_with fail
 go_quiet (fail)
 go_wp2_with fail
 go_ret
 exact ⟨rfl, below_drewN' _ _⟩
set_option maxRecDepth 100000 in
set_option maxHeartbeats 2000000 in
theorem part_any (w : World) (gb : Nat) (L : List Str) (G : List Gs) (x : Int) (h : GrAt w gb L G) (hok : ∀ t ∈ G, t.ok) (hs : G.length ≤ 12) (hx0 : 0 ≤ x) (hx1 : x ≤ 100000) :
 Calls Tryz.prog 102 #[.pointer (some ⟨gb, 0, none⟩), .int .i64 x] w fun e w' => e = .returned (.tuple #[.int .i64 (partP G x).1, .int .i64 (partP G x).2]) ∧ Below w.heap.size w w' := by
 have hlen := h.len
 have HE := hidE h.ends
 obtain ⟨aL, cL, aW, cW, aE, cE, h1, h2, h3, h4⟩ := h.at_
 have H1 := hidE h1
 have H2 := hidE h2
 have H3 := hidE h3
 have H4 := hidE h4
 have HOK := hidE hok
 have HBD := hidE (areaTo_bd hok)
 have hgb := lt_of_block h1
 have c0 : w.cell? ⟨gb, 0, none⟩ = some (.slice aL G.length cL) := c_e h1 rfl
 have HLL := hidE hlen
 clear h h1 h2 h3 h4 hok hlen
 go_enter Tryz.func102, Tryz.ntmps102
 go_wp2_with fail
 clear c0
 go_loopw [6, 16] (fun s i wr => ∃ k : Nat, k ≤ G.length ∧ s = .int .i64 (areaTo G k) ∧ i = .int .i64 k ∧ Hid (partGo x (areaTo G k) (G.drop k) = partP G x) ∧ Below w.heap.size w wr) (fun _ i _ => G.length - (intOf i).toNat)
 case atStart => exact ⟨0, Nat.zero_le _, by unfold areaTo; simp [isum], rfl, hidE (part_zero G x), Below.refl _ _⟩
 case round =>
  obtain ⟨k, hk, rfl, rfl, HP, hb⟩ := hrel
  have HB := hidE hb
  by_cases hlt : k < G.length
  ·have hltL : k < L.length := by rw [HLL.out]; exact hlt
   obtain ⟨b, off, rfl, hbl, hc⟩ := (H2.out.below hb (Nat.le_refl _)).at (i := k) hltL
   obtain ⟨bW, oW, rfl, hbW, hcW⟩ := (H3.out.below hb (Nat.le_refl _)).at (k := k) (by rw [List.length_map]; exact hlt)
   obtain ⟨bE, oE, rfl, hbE, hcE⟩ := (H4.out.below hb (Nat.le_refl _)).at (k := k) (by rw [List.length_map]; exact hlt)
   have hg := blk_below hb hgb H1.out
   rw [List.getElem_map] at hcW hcE
   have he := HE.out k hlt hltL
   have ok := HOK.out _ (List.getElem_mem hlt)
   have s0 := HBD.out k hk
   have HST := hidE (fun hx => part_step (x := x) hlt hx)
   have HSP := hidE (fun hx => part_stop (x := x) hlt hx)
   have hsucc := areaTo_succ hlt
   have s1 := HBD.out (k + 1) hlt
   rw [hsucc] at s1
   obtain ⟨t, ht⟩ : ∃ t, G[k] = t := ⟨_, rfl⟩
   rw [ht] at hcW hcE he ok HST HSP hsucc s1
   obtain ⟨ta, tb, tw, te⟩ := t
   simp only at hcW hcE he
   have harea := gs_area_bd ok
   obtain ⟨⟨a1, a2, a3⟩, ⟨w1, w2⟩, e1, e2⟩ := ok
   simp only at a1 a2 a3 w1 w2 e1 e2
   have r0 := hc 0 (by omega)
   have r1 := hc 1 (by omega)
   have r2 := hc 2 (by omega)
   have r3 := hc 3 (by omega)
   have r4 := hc 4 (by omega)
   have r5 := hc 5 (by omega)
   simp only [Nat.add_zero, Str.cells, List.getElem?_cons_zero, List.getElem?_cons_succ] at r0 r1 r2 r3 r4 r5
   rw [he.1] at r0
   rw [he.2] at r1
   generalize L[k].so = q2 at r2
   generalize L[k].no = q3 at r3
   generalize L[k].fso = q4 at r4
   generalize L[k].fno = q5 at r5
   clear hc he
   obtain ⟨S, hS⟩ : ∃ S, areaTo G k = S := ⟨_, rfl⟩
   rw [hS] at HST HSP HP s0 s1 hsucc ⊢
   obtain ⟨A, hA⟩ : ∃ A, wr.heap.size = A := ⟨_, rfl⟩
   obtain ⟨W1, hW1⟩ : ∃ W1, W1 = wr.alloc (.cells #[.int .i64 ta, .int .i64 tb, .int .i64 q2, .int .i64 q3, .int .i64 q4, .int .i64 q5] 179) := ⟨_, rfl⟩
   have x1 : W1.heap[A]? = some (.cells #[.int .i64 ta, .int .i64 tb, .int .i64 q2, .int .i64 q3, .int .i64 q4, .int .i64 q5] 179 (0,0)) := by rw [hW1, ← hA]; exact heap_alloc_new _ _
   have bb : Below wr.heap.size wr W1 := by rw [hW1]; exact (Below.refl _ _).alloc (Nat.le_refl _) _
   have y0 : W1.cell? ⟨A, 0, none⟩ = some (.int .i64 ta) := c_e x1 rfl
   have y1 : W1.cell? ⟨A, 1, none⟩ = some (.int .i64 tb) := c_e x1 rfl
   have hg1 := blk_below bb (lt_of_block hg) hg
   have g1 : W1.cell? ⟨gb, 1, none⟩ = some (.slice (some ⟨bW, oW, none⟩) G.length cW) := c_e hg1 rfl
   have g2 : W1.cell? ⟨gb, 2, none⟩ = some (.slice (some ⟨bE, oE, none⟩) G.length cE) := c_e hg1 rfl
   have k1 : W1.cell? ⟨bW, oW + k, none⟩ = some (.int .i64 tw) := (bb.cell (p := ⟨bW, oW + k, none⟩) hbW).trans hcW
   have k2 : W1.cell? ⟨bE, oE + k, none⟩ = some (.int .i64 te) := (bb.cell (p := ⟨bE, oE + k, none⟩) hbE).trans hcE
   have HBB := hidE (HB.out.trans (bb.mono hb.size))
   have wr1 : IntKind.i64.wrap (tb - ta) = tb - ta := IntWalk.i64_in _ (by omega)
   obtain ⟨R, hR⟩ : ∃ R, tb - ta = R := ⟨_, rfl⟩
   have hr0 : 0 < R := by omega
   have hr1 : R ≤ 100000 := by omega
   by_cases hx : tb < x
   ·have d1 : decide (tb < x) = true := by simpa using hx
    have m0 : IntKind.i64.wrap (tw + te) = tw + te := IntWalk.i64_in _ (by omega)
    have hM : Gs.area ⟨ta, tb, tw, te⟩ = R * (tw + te) := by unfold Gs.area Gs.run; rw [hR]
    obtain ⟨M, hMM⟩ : ∃ M, R * (tw + te) = M := ⟨_, rfl⟩
    rw [hM, hMM] at harea hsucc s1
    have m1 : IntKind.i64.wrap M = M := IntWalk.i64_in _ (by omega)
    have m2 : IntKind.i64.wrap (S + M) = S + M := IntWalk.i64_in _ (by omega)
    have HP2 := hidE (show partGo x (areaTo G (k + 1)) (G.drop (k + 1)) = partP G x by rw [← HST.out hx, HP.out])
    have HSU := hidE hsucc
    have HR := hidE hR
    clear hbl hbW hbE hg hcW hcE hsucc HST HSP HP s0 s1 harea hS ht hb bb hg1 x1 hM
    go_upto_region 5 with fail
    first | rw [hA] | skip
    rw [← hW1]
    clear hW1
    go_wp2_with fail
    go_quiet (fail)
    go_wp2_with fail
    go_roundw
    case rel => exact ⟨k + 1, by omega, by rw [HSU.out], by go_num, HP2, by first | exact HBB.out.trans (below_drewN' _ _) | exact HBB.out⟩
    case measure => simp [intOf]; omega
   ·have d1 : decide (tb < x) = false := by simpa using hx
    have hd : -100000 ≤ x - ta ∧ x - ta ≤ 100000 := by omega
    have wd : IntKind.i64.wrap (x - ta) = x - ta := IntWalk.i64_in _ (by omega)
    obtain ⟨D, hD⟩ : ∃ D, x - ta = D := ⟨_, rfl⟩
    rw [hD] at hd wd
    have p1 := mul_bd (a := S) (b := R) (A := 2400000000000) (B := 100000) (by omega) (by omega) (by omega) (by omega)
    have p2 := mul_bd (a := 2 * tw) (b := D) (A := 2000000) (B := 100000) (by omega) (by omega) (by omega) (by omega)
    have p3 := mul_bd (a := 2 * tw * D) (b := R) (A := 200000000000) (B := 100000) (by omega) (by omega) (by omega) (by omega)
    have p4 := mul_bd (a := te - tw) (b := D) (A := 1000000) (B := 100000) (by omega) (by omega) (by omega) (by omega)
    have p5 := mul_bd (a := (te - tw) * D) (b := D) (A := 100000000000) (B := 100000) (by omega) (by omega) (by omega) (by omega)
    have HR9 := hidE (show partP G x = (S * R + 2 * tw * D * R + (te - tw) * D * D, R) by
     rw [← HP.out, HSP.out hx]
     unfold partAt Gs.run
     simp only [hR, hD])
    obtain ⟨t2, ht2⟩ : ∃ z, 2 * tw = z := ⟨_, rfl⟩
    rw [ht2] at p2 p3 HR9
    obtain ⟨m1, hm1⟩ : ∃ z, S * R = z := ⟨_, rfl⟩
    obtain ⟨m2, hm2⟩ : ∃ z, t2 * D = z := ⟨_, rfl⟩
    rw [hm2] at p2 p3 HR9
    obtain ⟨m3, hm3⟩ : ∃ z, m2 * R = z := ⟨_, rfl⟩
    obtain ⟨t4, ht4⟩ : ∃ z, te - tw = z := ⟨_, rfl⟩
    rw [ht4] at p4 p5 HR9
    obtain ⟨m4, hm4⟩ : ∃ z, t4 * D = z := ⟨_, rfl⟩
    rw [hm4] at p4 p5 HR9
    obtain ⟨m5, hm5⟩ : ∃ z, m4 * D = z := ⟨_, rfl⟩
    rw [hm1] at p1 HR9
    rw [hm3] at p3 HR9
    rw [hm5] at p5 HR9
    have v0 : IntKind.i64.wrap t2 = t2 := IntWalk.i64_in _ (by omega)
    have v1 : IntKind.i64.wrap m1 = m1 := IntWalk.i64_in _ (by omega)
    have v2 : IntKind.i64.wrap m2 = m2 := IntWalk.i64_in _ (by omega)
    have v3 : IntKind.i64.wrap m3 = m3 := IntWalk.i64_in _ (by omega)
    have v4 : IntKind.i64.wrap t4 = t4 := IntWalk.i64_in _ (by omega)
    have v5 : IntKind.i64.wrap m4 = m4 := IntWalk.i64_in _ (by omega)
    have v6 : IntKind.i64.wrap m5 = m5 := IntWalk.i64_in _ (by omega)
    have v7 : IntKind.i64.wrap (m1 + m3) = m1 + m3 := IntWalk.i64_in _ (by omega)
    have v8 : IntKind.i64.wrap (m1 + m3 + m5) = m1 + m3 + m5 := IntWalk.i64_in _ (by omega)
    have HR := hidE hR
    clear hbl hbW hbE hg hcW hcE hsucc HST HSP HP s0 s1 harea hS ht hb bb hg1 x1 p1 p2 p3 p4 p5
    go_upto_region 5 with fail
    first | rw [hA] | skip
    rw [← hW1]
    clear hW1
    go_wp2_with fail
    go_quiet (fail)
    go_wp2_with fail
    go_ret2
    exact ⟨by rw [HR9.out]; rfl, by first | exact HBB.out.trans (below_drewN' _ _) | exact HBB.out⟩
  ·obtain rfl : k = G.length := by omega
   have HPE := hidE (show partP G x = (areaTo G G.length, 1) by rw [← HP.out, part_end])
   go_wp2_with fail
   go_ret2
   exact ⟨by rw [HPE.out]; rfl, HB.out⟩
set_option maxHeartbeats 1000000 in
theorem whole_any (w : World) (gb : Nat) (L : List Str) (G : List Gs) (h : GrAt w gb L G) (hok : GrOk G) : Calls Tryz.prog 109 #[.pointer (some ⟨gb, 0, none⟩)] w fun e w' => e = .returned (.int .i64 (wholeP G)) ∧ Below w.heap.size w w' := by
 have he := hok.ends
 have hp := hok.part_bd (x := toP G) (by omega) (Int.le_refl _)
 have hb := areaTo_bd hok.each G.length (Nat.le_refl _)
 have hw := hok.whole
 have hs := hok.short
 have HT := hidE (to_any w gb L G h hok.ne hok.short)
 have HPA := hidE (fun (W : World) (hb : Below w.heap.size w W) => part_any W gb L G (toP G) (h.below hb) hok.each hok.short (by omega) (by omega))
 have hwd : wholeP G = (partP G (toP G)).1.tdiv (partP G (toP G)).2 := rfl
 obtain ⟨q, hq⟩ : ∃ q, wholeP G = q := ⟨_, rfl⟩
 rw [hq] at hw hwd ⊢
 obtain ⟨X, hX⟩ : ∃ X, toP G = X := ⟨_, rfl⟩
 rw [hX] at HT HPA hp hwd
 obtain ⟨⟨nu, de⟩, hnd⟩ : ∃ z, partP G X = z := ⟨_, rfl⟩
 rw [hnd] at HPA hp hwd
 simp only at HPA hp hwd
 have d0 : (de == 0) = false := by simp; omega
 have d1 : de ≠ 0 := by omega
 have wq : IntKind.i64.wrap q = q := IntWalk.i64_in _ (by omega)
 have hqe : nu.tdiv de = q := hwd.symm
 clear h hok he hp hb hw hwd hq hX hnd
 go_enter Tryz.func109, Tryz.ntmps109
 go_wp2_with fail
 refine HT.out.mono ?_
 rintro e w1 ⟨rfl, hb1⟩
 have HB1 := hidE hb1
 have HP1 := hidE (HPA.out w1 hb1)
 clear hb1 HT HPA
 go_wp2_with fail
 refine HP1.out.mono ?_
 rintro e w2 ⟨rfl, hb2⟩
 have HB2 := hidE (HB1.out.trans (hb2.mono HB1.out.size))
 clear hb2 HP1
 go_wp2_with fail
 go_ret
 exact ⟨rfl, HB2.out⟩
set_option maxHeartbeats 2000000 in
theorem cut_any (w : World) (gb : Nat) (L : List Str) (G : List Gs) (m : Int) (h : GrAt w gb L G) (hok : GrOk G) (hm0 : 0 ≤ m) (hm1 : m ≤ 2400000000000) : Calls Tryz.prog 110 #[.pointer (some ⟨gb, 0, none⟩), .int .i64 m] w fun e w' => e = .returned (.int .i64 (cutP G m)) ∧ Below w.heap.size w w' := by
 have he := hok.ends
 have HF := hidE (from_any w gb L G h hok.ne)
 have HT := hidE (to_any w gb L G h hok.ne hok.short)
 have HPA := hidE (fun (W : World) (hb : Below w.heap.size w W) (x : Int) (h0 : 0 ≤ x) (h1 : x ≤ 100000) => part_any W gb L G x (h.below hb) hok.each hok.short h0 h1)
 have HPB := hidE (fun (x : Int) (h0 : fromP G ≤ x) (h1 : x ≤ toP G) => hok.part_bd h0 h1)
 obtain ⟨R, hR⟩ : ∃ R, cutP G m = R := ⟨_, rfl⟩
 rw [hR]
 unfold cutP at hR
 obtain ⟨fr, hfr⟩ : ∃ z, fromP G = z := ⟨_, rfl⟩
 obtain ⟨up, hup⟩ : ∃ z, toP G = z := ⟨_, rfl⟩
 rw [hfr, hup] at hR he
 rw [hfr] at HF HPB
 rw [hup] at HT HPB
 have HRR := hidE hR
 clear h hok hfr hup hR
 go_enter Tryz.func110, Tryz.ntmps110
 go_wp2_with fail
 refine HF.out.mono ?_
 rintro e w0 ⟨rfl, hww⟩
 rw [hww]
 clear hww
 go_wp2_with fail
 refine HT.out.mono ?_
 rintro e w1 ⟨rfl, hb1⟩
 have HB1 := hidE hb1
 clear hb1 HT HF
 go_wp2_with fail
 go_loopw [5, 6] (fun a b wr => ∃ (lo hi : Int) (f : Nat), a = .int .i64 lo ∧ b = .int .i64 hi ∧ fr ≤ lo ∧ lo ≤ hi ∧ hi ≤ up ∧ Hid (cutGo G m f lo hi = R) ∧ (hi - lo).toNat ≤ f ∧ Hid (Below w.heap.size w wr)) (fun a b _ => (intOf b - intOf a).toNat)
 case atStart => exact ⟨fr, up, (up - fr).toNat, rfl, rfl, Int.le_refl _, by omega, Int.le_refl _, HRR, Nat.le_refl _, HB1⟩
 case round =>
  obtain ⟨lo, hi, f, rfl, rfl, g1, g2, g3, hgo, hf, hb⟩ := hrel
  by_cases hlt : lo < hi
  ·have d1 : decide (lo < hi) = true := by simpa using hlt
   obtain ⟨g, rfl⟩ : ∃ g, f = g + 1 := ⟨f - 1, by omega⟩
   have hgo2 := hgo.out
   unfold cutGo at hgo2
   rw [if_pos hlt] at hgo2
   obtain ⟨h2, hh2⟩ : ∃ z, (hi - lo + 1).tdiv 2 = z := ⟨_, rfl⟩
   rw [hh2] at hgo2
   have hh3 : 1 ≤ h2 ∧ lo + h2 ≤ hi ∧ (hi - (lo + h2)).toNat ≤ g ∧ (lo + h2 - 1 - lo).toNat ≤ g := by
    rw [Int.tdiv_eq_ediv_of_nonneg (by omega)] at hh2; omega
   obtain ⟨mid, hmid⟩ : ∃ z, lo + h2 = z := ⟨_, rfl⟩
   rw [hmid] at hgo2 hh3
   obtain ⟨q1, q2, q3, q4⟩ := hh3
   have w0 : IntKind.i64.wrap (hi - lo) = hi - lo := IntWalk.i64_in _ (by omega)
   have w1' : IntKind.i64.wrap (hi - lo + 1) = hi - lo + 1 := IntWalk.i64_in _ (by omega)
   have w2 : IntKind.i64.wrap h2 = h2 := IntWalk.i64_in _ (by omega)
   have w3 : IntKind.i64.wrap mid = mid := IntWalk.i64_in _ (by omega)
   have w4 : IntKind.i64.wrap (mid - 1) = mid - 1 := IntWalk.i64_in _ (by omega)
   have hmf : lo < mid := by omega
   have hpb := HPB.out mid (by omega) (by omega)
   have hpa := HPA.out wr hb.out mid (by omega) (by omega)
   obtain ⟨⟨nu, de⟩, hnd⟩ : ∃ z, partP G mid = z := ⟨_, rfl⟩
   rw [hnd] at hpb hpa hgo2
   simp only at hpb hpa hgo2
   have p1 := mul_bd (a := m) (b := de) (A := 2400000000000) (B := 100000) (by omega) (by omega) (by omega) (by omega)
   obtain ⟨md, hmd⟩ : ∃ z, m * de = z := ⟨_, rfl⟩
   rw [hmd] at p1 hgo2
   have w5 : IntKind.i64.wrap md = md := IntWalk.i64_in _ (by omega)
   have HPP := hidE hpa
   have HG2 := hidE hgo2
   have HMID := hidE hmid
   clear hgo2 hpa hnd hgo
   go_wp2_with fail
   refine HPP.out.mono ?_
   rintro e wq ⟨rfl, hbq⟩
   have HBQ := hidE (hb.out.trans (hbq.mono hb.out.size))
   clear hbq HPP hb
   by_cases hle : nu ≤ md
   ·have d2 : decide (nu ≤ md) = true := by simpa using hle
    have HG3 := hidE (show cutGo G m g mid hi = R by have := HG2.out; rw [if_pos hle] at this; exact this)
    go_wp2_with fail
    go_roundw
    case rel => exact ⟨mid, hi, g, rfl, rfl, by omega, by omega, g3, HG3, by omega, HBQ⟩
    case measure => simp [intOf]; omega
   ·have d2 : decide (nu ≤ md) = false := by simpa using hle
    have HG3 := hidE (show cutGo G m g lo (mid - 1) = R by have := HG2.out; rw [if_neg hle] at this; exact this)
    go_wp2_with fail
    go_roundw
    case rel => exact ⟨lo, mid - 1, g, rfl, rfl, g1, by omega, by omega, HG3, by omega, HBQ⟩
    case measure => simp [intOf]; omega
  ·have d1 : decide (lo < hi) = false := by simpa using hlt
   have hR : R = lo := by
    have := hgo.out
    cases f with
    | zero => exact this.symm
    | succ g => unfold cutGo at this; rw [if_neg hlt] at this; exact this.symm
   subst hR
   go_wp2_with fail
   go_ret
   exact ⟨rfl, hb.out⟩
end Go.Proofs.YthjmkmjojlfejaaGreat
