/- Merged text 6 of the base: So4, So5, So6, So7. No conditions beyond those stated. -/
import Derived.Test.YthjmkmjojlfejaaGreatB05
namespace Go.Proofs.YthjmkmjojlfejaaGreat
open Go Go.RowKit Go.Shelf
set_option maxRecDepth 100000 in
set_option maxHeartbeats 4000000 in
theorem rotate_any (w : World) (g n a m b : Nat) (f : Nat → Int) (fv : Value) (hn : n ≤ 1000000) (ha : a < m) (hm : m < b) (hb : b ≤ n) (hg : w.heap[g]? = some (.cells (rowF f n) 3 (0,0))) :
 Calls Tryz.prog 242 #[.slice (some ⟨g, 0, none⟩) n n, .int .i64 (a : Int), .int .i64 (m : Int), .int .i64 (b : Int), fv] w fun e w' => e = .returned (.tuple #[]) ∧ w'.heap[g]? = some (.cells (rowF (rotF f a m b) n) 3 (0,0)) ∧ OnlyG g w w' := by
 obtain ⟨i0, hi0⟩ : ∃ i, m = a + i := ⟨m - a, by omega⟩
 obtain ⟨j0, hj0⟩ : ∃ j, b = m + j := ⟨b - m, by omega⟩
 have hwi : IntKind.i64.wrap ((m : Int) - (a : Int)) = (i0 : Int) := by rw [IntWalk.i64_in _ (by omega)]; omega
 have hwj : IntKind.i64.wrap ((b : Int) - (m : Int)) = (j0 : Int) := by rw [IntWalk.i64_in _ (by omega)]; omega
 have hii : (m : Int) - (a : Int) = (i0 : Int) := by omega
 have hjj : (b : Int) - (m : Int) = (j0 : Int) := by omega
 have HT : Hid (rotF f (m - i0) m (m + j0) = rotF f a m b) := hidE (by rw [hj0, show m - i0 = a by omega])
 obtain ⟨T, hT⟩ : ∃ T, rotF f a m b = T := ⟨_, rfl⟩
 rw [hT] at HT ⊢
 have HG := hidE hg
 have i1 : 1 ≤ i0 := by omega
 have j1 : 1 ≤ j0 := by omega
 have i2 : i0 ≤ m := by omega
 have j2 : m + j0 ≤ n := by omega
 clear hg hT hi0 hj0 ha hm hb
 go_enter Tryz.func242, Tryz.ntmps242
 go_wp2_with fail
 go_loopw [10, 11] (fun x y wr => ∃ (i j : Nat) (F : Nat → Int), 1 ≤ i ∧ 1 ≤ j ∧ i ≤ m ∧ m + j ≤ n ∧ x = .int .i64 (i : Int) ∧ y = .int .i64 (j : Int) ∧ Hid (rotF F (m - i) m (m + j) = T) ∧ Hid (wr.heap[g]? = some (.cells (rowF F n) 3 (0,0))) ∧ Hid (OnlyG g w wr)) (fun x y _ => (intOf x).toNat + (intOf y).toNat)
 case atStart => exact ⟨i0, j0, f, i1, j1, i2, j2, rfl, rfl, HT, HG, hidE (OnlyG.refl _ _)⟩
 case round =>
  obtain ⟨i, j, F, i3, j3, i4, j4, rfl, rfl, HTT, HR, HO⟩ := hrel
  clear hwi hwj hii hjj
  obtain ⟨p, hp⟩ : ∃ p, m = p + i := ⟨m - i, by omega⟩
  have hmi : m - i = p := by omega
  have hwp : IntKind.i64.wrap ((m : Int) - (i : Int)) = (p : Int) := by rw [IntWalk.i64_in _ (by omega)]; omega
  have hpp : (m : Int) - (i : Int) = (p : Int) := by omega
  have HRL := hidE (fun h => rot_left F m i j i4 h)
  have HRR := hidE (fun h => rot_right F m i j i4 h)
  have HRE := hidE (rot_equal F m i i4)
  rw [hmi] at HRL HRR HRE HTT
  rcases Nat.lt_trichotomy i j with hlt | heq | hgt
  ·have hne : ((i : Int) != (j : Int)) = true := by simp; omega
   have hd : decide ((i : Int) > (j : Int)) = false := by simp; omega
   obtain ⟨q, hq⟩ : ∃ q, j = q + i := ⟨j - i, by omega⟩
   have hjq : j - i = q := by omega
   have hwq : IntKind.i64.wrap ((j : Int) - (i : Int)) = (q : Int) := by rw [IntWalk.i64_in _ (by omega)]; omega
   have hqq : (j : Int) - (i : Int) = (q : Int) := by omega
   obtain ⟨r, hr⟩ : ∃ r, m + j = r + i := ⟨m + j - i, by omega⟩
   have hmr : m + j - i = r := by omega
   have hwr1 : IntKind.i64.wrap ((m : Int) + (j : Int)) = (m : Int) + (j : Int) := IntWalk.i64_in _ (by omega)
   have hwr2 : IntKind.i64.wrap ((m : Int) + (j : Int) - (i : Int)) = (r : Int) := by rw [IntWalk.i64_in _ (by omega)]; omega
   have hrr : (m : Int) + (j : Int) - (i : Int) = (r : Int) := by omega
   have HSW := hidE (swapRange_any wr g n p r i F fv hn (by omega) (by omega) HR.out)
   have HT2 : Hid (rotF (swapF F p r i) p m (m + q) = T) := hidE (by rw [← HTT.out, ← HRR.out hlt, hmr, hjq])
   have hm1 : 1 ≤ q := by omega
   have hm2 : m + q ≤ n := by omega
   have hm3 : q < j := by omega
   clear hlt hp hq hr hmi hjq hmr
   go_wp2_with fail
   refine HSW.out.mono ?_
   rintro e w1 ⟨rfl, hg1, ho1⟩
   have HO1 := hidE (HO.out.trans ho1)
   have HR1 := hidE hg1
   clear ho1 hg1
   go_wp2_with fail
   go_roundw
   case rel => exact ⟨i, q, _, i3, hm1, i4, hm2, rfl, (by first | rfl | trivial), hidE (by rw [show m - i = p by omega]; exact HT2.out), HR1, HO1⟩
   case measure => simp [intOf]; omega
  ·subst heq
   have hne : ((i : Int) != (i : Int)) = false := by simp
   have HSW := hidE (swapRange_any wr g n p m i F fv hn (by omega) (by omega) HR.out)
   rw [HRE.out, HTT.out] at HSW
   clear hp hmi
   go_wp2_with fail
   refine HSW.out.mono ?_
   rintro e w1 ⟨rfl, hg1, ho1⟩
   have HO1 := hidE (HO.out.trans ho1)
   have HR1 := hidE hg1
   clear ho1 hg1
   go_wp2_with fail
   go_end0
   exact ⟨rfl, HR1.out, HO1.out⟩
  ·have hne : ((i : Int) != (j : Int)) = true := by simp; omega
   have hd : decide ((i : Int) > (j : Int)) = true := by simp; omega
   obtain ⟨q, hq⟩ : ∃ q, i = q + j := ⟨i - j, by omega⟩
   have hiq : i - j = q := by omega
   have hwq : IntKind.i64.wrap ((i : Int) - (j : Int)) = (q : Int) := by rw [IntWalk.i64_in _ (by omega)]; omega
   have hqq : (i : Int) - (j : Int) = (q : Int) := by omega
   have HSW := hidE (swapRange_any wr g n p m j F fv hn (by omega) (by omega) HR.out)
   have HT2 : Hid (rotF (swapF F p m j) (m - q) m (m + j) = T) := hidE (by rw [← HTT.out, ← HRL.out hgt, hiq])
   have hm1 : 1 ≤ q := by omega
   have hm2 : q ≤ m := by omega
   have hm3 : q < i := by omega
   clear hgt hp hq hmi hiq
   go_wp2_with fail
   refine HSW.out.mono ?_
   rintro e w1 ⟨rfl, hg1, ho1⟩
   have HO1 := hidE (HO.out.trans ho1)
   have HR1 := hidE hg1
   clear ho1 hg1
   go_wp2_with fail
   go_roundw
   case rel => exact ⟨q, j, _, hm1, j3, hm2, j4, (by first | rfl | trivial), rfl, HT2, HR1, HO1⟩
   case measure => simp [intOf]; omega
def cmpV (key : Int → Int) (x y : Int) : Int := if key y < key x then -1 else if key x < key y then 1 else 0
theorem cmpV_neg (key : Int → Int) (x y : Int) : cmpV key x y < 0 ↔ key y < key x := by
 unfold cmpV
 split
 ·constructor
  ·intro _; assumption
  ·intro _; decide
 ·split <;> constructor <;> intro h <;> omega
def CmpOk (f : FuncId) (caps : Array Value) (g n : Nat) (key : Int → Int) (W0 : World) : Prop :=
 ∀ (x y : Int) (W : World), OnlyG g W0 W → 0 ≤ x → x < n → 0 ≤ y → y < n → Calls Tryz.prog f (#[.int .i64 x, .int .i64 y] ++ caps) W fun e W' => e = .returned (.int .i64 (cmpV key x y)) ∧ ∃ nd, W' = W.drewN nd
theorem CmpOk.only {f : FuncId} {caps : Array Value} {g n : Nat} {key : Int → Int} {W0 W1 : World} (h : CmpOk f caps g n key W0) (ho : OnlyG g W0 W1) : CmpOk f caps g n key W1 := fun x y W hW a b c d => h x y W (ho.trans hW) a b c d
def RowIn (f : Nat → Int) (n : Nat) : Prop := ∀ x, x < n → 0 ≤ f x ∧ f x < n
theorem RowIn.moved {f g : Nat → Int} {n a b : Nat} (h : RowIn f n) (m : MovedF f g a b) (hb : b ≤ n) : RowIn g n := by
 intro x hx
 by_cases hin : a ≤ x ∧ x < b
 ·obtain ⟨y, y1, y2, e⟩ := m.mem x hin.1 hin.2
  rw [e]; exact h y (by omega)
 ·rw [m.same x hin]; exact h x hx
set_option maxRecDepth 100000 in
set_option maxHeartbeats 8000000 in
theorem insertion_any (w : World) (g n a b : Nat) (f : Nat → Int) (cf : FuncId) (caps : Array Value) (key : Int → Int) (hn : n ≤ 1000000) (hab : a ≤ b) (hb : b ≤ n) (hin : RowIn f n) (hasc : ∀ x y, a ≤ x → x < y → y < b → f x < f y)
 (hg : w.heap[g]? = some (.cells (rowF f n) 3 (0,0))) (hc : CmpOk cf caps g n key w) (eg : Enters Tryz.prog cf) :
 Calls Tryz.prog 238 #[.slice (some ⟨g, 0, none⟩) n n, .int .i64 (a : Int), .int .i64 (b : Int), .func (.func cf) #[] caps] w fun e w' => e = .returned (.tuple #[]) ∧ (∃ f', MergedF (keyLt key) f f' a b ∧ w'.heap[g]? = some (.cells (rowF f' n) 3 (0,0))) ∧ OnlyG g w w' := by
 have HIN := hidE hin
 have HAS := hidE hasc
 have HG := hidE hg
 have HC := hidE hc
 unfold Enters at eg
 clear hin hasc hg hc
 have hwa : IntKind.i64.wrap ((a : Int) + 1) = (a : Int) + 1 := IntWalk.i64_in _ (by omega)
 go_enter Tryz.func238, Tryz.ntmps238
 go_wp2_with fail
 go_loopw [8] (fun x wr => ∃ (i : Nat) (F : Nat → Int), a + 1 ≤ i ∧ (i ≤ b ∨ i = a + 1) ∧ x = .int .i64 (i : Int) ∧ Hid (SortedF (keyLt key) F a i) ∧ Hid (MovedF f F a i) ∧ Hid (wr.heap[g]? = some (.cells (rowF F n) 3 (0,0))) ∧ Hid (OnlyG g w wr)) (fun x _ => b + 2 - (intOf x).toNat)
 case atStart => exact ⟨a + 1, f, Nat.le_refl _, .inr rfl, by go_num, hidE (fun x y h1 h2 h3 => by omega), hidE (MovedF.refl _ _ _), HG, hidE (OnlyG.refl _ _)⟩
 case round =>
  obtain ⟨i, F, hi0, hi1, rfl, HSO, HMO, HR, HO⟩ := hrel
  clear hwa
  by_cases hlt : i < b
  ·have hdl : decide ((i : Int) < (b : Int)) = true := by simp; omega
   obtain ⟨wA, rfl⟩ : ∃ x : World, x = wr := ⟨wr, rfl⟩
   have HFI := hidE (show F i = f i from HMO.out.same i (by omega))
   have HLT := hidE (fun (x : Nat) (x1 : a ≤ x) (x2 : x < i) => show F x < F i by
    obtain ⟨y, y1, y2, e⟩ := HMO.out.mem x x1 x2
    rw [e, HFI.out]; exact HAS.out y i y1 y2 hlt)
   have HRI := hidE (HIN.out.moved HMO.out (by omega))
   go_wp2_with fail
   go_loopw [9] (fun x wr => ∃ j : Nat, a ≤ j ∧ j ≤ i ∧ x = .int .i64 (j : Int) ∧ Hid (∀ x, j ≤ x → x < i → keyLt key (F i) (F x)) ∧ Hid (wr.heap[g]? = some (.cells (rowF (rotF F j i (i + 1)) n) 3 (0,0))) ∧ Hid (OnlyG g w wr)) (fun x _ => (intOf x).toNat)
   case atStart => exact ⟨i, by omega, Nat.le_refl _, rfl, hidE (fun x h1 h2 => by omega), hidE (by rw [rotF_none']; exact HR.out), HO⟩
   case round =>
    obtain ⟨j, hj0, hj1, rfl, HGT, HR2, HO2⟩ := hrel
    obtain ⟨wx, rfl⟩ : ∃ x : World, x = wr := ⟨wr, rfl⟩
    by_cases hja : a < j
    ·have hd : decide ((j : Int) > (a : Int)) = true := by simp; omega
     obtain ⟨k, hk⟩ : ∃ k, j = k + 1 := ⟨j - 1, by omega⟩
     obtain ⟨G, hGe⟩ : ∃ G, rotF F j i (i + 1) = G := ⟨_, rfl⟩
     have HGj := hidE (show G j = F i by rw [← hGe]; simp only [rotF]; rw [if_neg (by omega), if_pos (by omega), Nat.sub_self, Nat.zero_add])
     have HGk := hidE (show G k = F k by rw [← hGe]; simp only [rotF]; rw [if_pos (by omega)])
     have HSW := hidE (show swapF G j k 1 = rotF F k i (i + 1) by rw [← hGe, hk]; exact rot_down F k i (by omega))
     rw [hGe] at HR2
     have hkj : (j : Int) - 1 = (k : Int) := by omega
     have hwk : IntKind.i64.wrap (k : Int) = (k : Int) := IntWalk.i64_in _ (by omega)
     have hkn : k < n := by omega
     have hjn : j < n := by omega
     have kl1 : (k : Int) < (n : Int) := by omega
     have kl2 : (j : Int) < (n : Int) := by omega
     have e1 : wx.cell? ⟨g, j, none⟩ = some (.int .i64 (G j)) := by rw [cell_of_row _ _ _ _ _ _ HR2.out, rowF_get _ hjn]
     have e2 : wx.cell? ⟨g, k, none⟩ = some (.int .i64 (G k)) := by rw [cell_of_row _ _ _ _ _ _ HR2.out, rowF_get _ hkn]
     have hri := HRI.out i (by omega)
     have hrk := HRI.out k (by omega)
     have HCA := hidE (fun (W : World) (hW : OnlyG g w W) => HC.out (F i) (F k) W hW hri.1 hri.2 hrk.1 hrk.2)
     have HE := hidE (show cmpV key (F i) (F k) < 0 ↔ keyLt key (F i) (F k) by rw [cmpV_neg, keyLt_late key (HLT.out k (by omega) (by omega))])
     have HE2 := hidE (fun h : ¬ keyLt key (F i) (F k) => show keyLt key (F k) (F i) by
      rw [keyLt_late' key (HLT.out k (by omega) (by omega)), ← keyLt_late key (HLT.out k (by omega) (by omega))]; exact h)
     obtain ⟨c, hce⟩ : ∃ c, cmpV key (F i) (F k) = c := ⟨_, rfl⟩
     rw [hce] at HCA HE
     rw [HGj.out] at e1
     rw [HGk.out] at e2
     have HK := hidE hk
     have HGe := hidE hGe
     clear hGe hce hri hrk hk
     by_cases hcn : c < 0
     ·have hcd : decide (c < 0) = true := by simpa using hcn
      have hlk := HE.out.1 hcn
      have HGT2 := hidE (fun (x : Nat) (h1 : k ≤ x) (h2 : x < i) => show keyLt key (F i) (F x) by
       by_cases e : x = k
       ·rw [e]; exact hlk
       ·exact HGT.out x (by have := HK.out; omega) h2)
      clear hcn hlk
      go_upto_region 4 with fail
      go_still_tail 14, (by kernel_rfl)
      change wpList _ _ _ _ _ wx.drew
      go_wp2_with (go_at_fn cf; refine (HCA.out _ (HO2.out.trans (OnlyG.drew _))).mono ?_; rintro e w2 ⟨rfl, nd, rfl⟩)
      obtain ⟨wy, hwy⟩ : ∃ y, y = wx.drewN (1 + nd) := ⟨_, rfl⟩
      rw [← hwy]
      have HR := hidE (show wy.heap[g]? = some (.cells (rowF G n) 3 (0,0)) by rw [hwy]; exact HR2.out)
      have HOY := hidE (show OnlyG g w wy by rw [hwy]; exact HO2.out.trans (OnlyG.drewN _ _))
      clear hwy e1 e2 hkj
      have e1 : wy.cell? ⟨g, j, none⟩ = some (.int .i64 (G j)) := by rw [cell_of_row _ _ _ _ _ _ HR.out, rowF_get _ hjn]
      have e2 : wy.cell? ⟨g, k, none⟩ = some (.int .i64 (G k)) := by rw [cell_of_row _ _ _ _ _ _ HR.out, rowF_get _ hkn]
      have f1 : wy.frozen? ⟨g, j, none⟩ = false := frozen_of_row _ _ _ _ _ HR.out
      have hqn := hkn
      have hpn := hjn
      have HPQ : Hid (j ≠ k) := hidE (by have := HK.out; omega)
      have hwq : IntKind.i64.wrap ((j : Int) - 1) = (k : Int) := by have := HK.out; rw [IntWalk.i64_in _ (by omega)]; omega
      have hS0 : wy.drew.cell? ⟨g, j, none⟩ = some (.int .i64 (G j)) ∧ wy.drew.cell? ⟨g, k, none⟩ = some (.int .i64 (G k)) := ⟨e1, e2⟩
      go_upto_region 6 with fail
      refine wp_region_G (S := fun V => V.cell? ⟨g, j, none⟩ = some (.int .i64 (G j)) ∧ V.cell? ⟨g, k, none⟩ = some (.int .i64 (G k))) (T := fun t => decide (14 ≤ t)) (by kernel_rfl) ?_
      refine t_g 0 37 (.slice (some ⟨g, 0, none⟩) n n) rfl (by kernel_rfl) rfl (fun _ _ _ h => h) (fun V hV => ?_) (.inr hS0) ?_
      ·simp [go_sem, execOp]
      try simp only [s_a, s_b, s_c]
      refine t_g 1 38 (.int .i64 (j : Int)) rfl (by kernel_rfl) rfl (fun _ _ _ h => h) (fun V hV => ?_) (.inr hS0) ?_
      ·simp [go_sem, execOp]
      try simp only [s_a, s_b, s_c]
      refine t_g 2 39 (.slice (some ⟨g, 0, none⟩) n n) rfl (by kernel_rfl) rfl (fun _ _ _ h => h) (fun V hV => ?_) (.inr hS0) ?_
      ·simp [go_sem, execOp]
      try simp only [s_a, s_b, s_c]
      refine t_g 3 40 (.int .i64 (j : Int)) rfl (by kernel_rfl) rfl (fun _ _ _ h => h) (fun V hV => ?_) (.inr hS0) ?_
      ·simp [go_sem, execOp]
      try simp only [s_a, s_b, s_c]
      refine t_g 4 41 (.int .i64 (k : Int)) rfl (by kernel_rfl) rfl (fun _ _ _ h => h) (fun V hV => ?_) (.inr hS0) ?_
      ·simp [go_sem, execOp, hwq]
      try simp only [s_a, s_b, s_c]
      refine t_g 5 42 (.slice (some ⟨g, 0, none⟩) n n) rfl (by kernel_rfl) rfl (fun _ _ _ h => h) (fun V hV => ?_) (.inr hS0) ?_
      ·simp [go_sem, execOp]
      try simp only [s_a, s_b, s_c]
      refine t_g 6 43 (.int .i64 (j : Int)) rfl (by kernel_rfl) rfl (fun _ _ _ h => h) (fun V hV => ?_) (.inr hS0) ?_
      ·simp [go_sem, execOp]
      try simp only [s_a, s_b, s_c]
      refine t_g 7 44 (.int .i64 (k : Int)) rfl (by kernel_rfl) rfl (fun _ _ _ h => h) (fun V hV => ?_) (.inr hS0) ?_
      ·simp [go_sem, execOp, hwq]
      try simp only [s_a, s_b, s_c]
      refine t_g 8 45 (.pointer (some ⟨g, k, none⟩)) rfl (by kernel_rfl) rfl (fun _ _ _ h => h) (fun V hV => ?_) (.inr hS0) ?_
      ·simp [go_sem, execOp, hqn]
      try simp only [s_a, s_b, s_c]
      refine wpAnyG_load (i := 9) (d := 46) (v := .int .i64 (G k)) rfl rfl rfl (by kernel_rfl) (by kernel_rfl) (by kernel_rfl) (by kernel_rfl) (by kernel_rfl) (fun _ _ _ h => h) (.inl ⟨rfl, fun V hV => ?_⟩) hS0 ?_
      ·obtain ⟨z0, z1⟩ := hV
       simp [go_sem, execOp, z1]
      try simp only [s_a, s_b, s_c]
      refine t_g 10 47 (.slice (some ⟨g, 0, none⟩) n n) rfl (by kernel_rfl) rfl (fun _ _ _ h => h) (fun V hV => ?_) (.inr hS0) ?_
      ·simp [go_sem, execOp]
      try simp only [s_a, s_b, s_c]
      refine t_g 11 48 (.int .i64 (j : Int)) rfl (by kernel_rfl) rfl (fun _ _ _ h => h) (fun V hV => ?_) (.inr hS0) ?_
      ·simp [go_sem, execOp]
      try simp only [s_a, s_b, s_c]
      refine t_g 12 49 (.pointer (some ⟨g, j, none⟩)) rfl (by kernel_rfl) rfl (fun _ _ _ h => h) (fun V hV => ?_) (.inr hS0) ?_
      ·simp [go_sem, execOp, hpn]
      try simp only [s_a, s_b, s_c]
      refine wpAnyG_load (i := 13) (d := 50) (v := .int .i64 (G j)) rfl rfl rfl (by kernel_rfl) (by kernel_rfl) (by kernel_rfl) (by kernel_rfl) (by kernel_rfl) (fun _ _ _ h => h) (.inl ⟨rfl, fun V hV => ?_⟩) hS0 ?_
      ·obtain ⟨z0, z1⟩ := hV
       simp [go_sem, execOp, z0]
      try simp only [s_a, s_b, s_c]
      refine wpAnyG_step 14 rfl (by kernel_rfl) (fun K hK => ?_)
      go_simp
      refine hK.out _ _ (.inl ⟨14, rfl, by kernel_rfl⟩) ?_
      clear hK K
      try simp only [Act.put, s_a, s_b, s_c]
      refine wpAnyG_step 15 rfl (by kernel_rfl) (fun K hK => ?_)
      go_simp
      refine hK.out _ _ (.inl ⟨15, rfl, by kernel_rfl⟩) ?_
      clear hK K
      try simp only [Act.put, s_a, s_b, s_c]
      have R1 : ((wy.setCell ⟨g, j, none⟩ (.int .i64 (G k))).drew).heap[g]? = some (.cells (rowF (fun x => if x = j then G k else G x) n) 3 (0,0)) := by
       refine (heap_setCell_same _ _ _ _ _ _ HR.out).trans ?_
       rw [rowF_set]
      have e3 : ((wy.setCell ⟨g, j, none⟩ (.int .i64 (G k))).drew).cell? ⟨g, k, none⟩ = some (.int .i64 (G k)) := by
       rw [cell_of_row _ _ _ _ _ _ R1, rowF_get _ hqn]
       have h2 : ¬ k = j := fun e => HPQ.out e.symm
       simp [h2]
      have f3 : ((wy.setCell ⟨g, j, none⟩ (.int .i64 (G k))).drew).frozen? ⟨g, k, none⟩ = false := frozen_of_row _ _ _ _ _ R1
      refine wpAnyG_step 16 rfl (by kernel_rfl) (fun K hK => ?_)
      go_simp
      refine hK.out _ _ (.inl ⟨16, rfl, by kernel_rfl⟩) ?_
      clear hK K
      try simp only [Act.put, s_a, s_b, s_c]
      refine wpAnyG_step 17 rfl (by kernel_rfl) (fun K hK => ?_)
      go_simp
      refine hK.out _ _ (.inl ⟨17, rfl, by kernel_rfl⟩) ?_
      clear hK K
      try simp only [Act.put, s_a, s_b, s_c]
      refine wpAnyG_done (by kernel_rfl) ?_ _
      have HN := hidE (show (((wy.setCell ⟨g, j, none⟩ (.int .i64 (G k))).setCell ⟨g, k, none⟩ (.int .i64 (G j))).drew).heap[g]? = some (.cells (rowF (swapF G j k 1) n) 3 (0,0)) from (heap_setCell_same _ _ _ _ _ _ (show (wy.setCell ⟨g, j, none⟩ (.int .i64 (G k))).heap[g]? = _ from R1)).trans (by rw [rowF_set, ← swap_one G j k HPQ.out]))
      have HO2 := hidE (show OnlyG g w (((wy.setCell ⟨g, j, none⟩ (.int .i64 (G k))).setCell ⟨g, k, none⟩ (.int .i64 (G j))).drew) from (((HOY.out.trans (OnlyG.set _ _ _)).trans (OnlyG.set _ _ _)).trans (OnlyG.drew _)))
      clear R1 e3 f3 hS0 e1 e2 f1
      rw [HSW.out] at HN
      clear hwq
      have hkj : (j : Int) - 1 = (k : Int) := by have := HK.out; omega
      go_wp2_with fail
      go_roundw
      case rel => exact ⟨k, by have := HK.out; omega, by have := HK.out; omega, rfl, HGT2, HN, HO2⟩
      case measure => have := HK.out; simp [intOf]; omega
     ·have hcd : decide (c < 0) = false := by simpa using hcn
      have hlk := HE2.out (fun h => hcn (HE.out.2 h))
      have HM := hidE (insert_last (keyLt_trans key) hj0 hj1 HSO.out (fun _ => by have := HK.out; rw [show j - 1 = k by omega]; exact hlk) HGT.out)
      clear hcn hlk
      go_upto_region 4 with fail
      go_still_tail 14, (by kernel_rfl)
      change wpList _ _ _ _ _ wx.drew
      go_wp2_with (go_at_fn cf; refine (HCA.out _ (HO2.out.trans (OnlyG.drew _))).mono ?_; rintro e w2 ⟨rfl, nd, rfl⟩)
      go_roundw
      case rel => exact ⟨i + 1, _, by omega, .inl (by omega), by go_num, hidE HM.out.sorted, hidE ((HMO.out.wide (Nat.le_refl _) (by omega)).trans HM.out.moved), hidE (by rw [HGe.out]; exact HR2.out), hidE (HO2.out.trans (OnlyG.drewN _ _))⟩
      case measure => simp [intOf]; omega
    ·obtain rfl : j = a := by omega
     have hd : decide ((j : Int) > (j : Int)) = false := by simp
     have HM := hidE (insert_last (keyLt_trans key) (Nat.le_refl _) hj1 HSO.out (fun h => absurd h (Nat.lt_irrefl _)) HGT.out)
     go_upto_region 4 with fail
     go_quiet (fail)
     go_wp2_with fail
     go_roundw
     case rel => exact ⟨i + 1, _, by omega, .inl (by omega), by go_num, hidE HM.out.sorted, hidE ((HMO.out.wide (Nat.le_refl _) (by omega)).trans HM.out.moved), HR2, hidE (HO2.out.trans (OnlyG.drewN _ _))⟩
     case measure => simp [intOf]; omega
  ·have hdl : decide ((i : Int) < (b : Int)) = false := by simp; omega
   have HFIN : Hid (∃ f', MergedF (keyLt key) f f' a b ∧ wr.heap[g]? = some (.cells (rowF f' n) 3 (0,0))) := hidE (by
    by_cases hb2 : b = i
    ·rw [hb2]; exact ⟨F, ⟨HSO.out, HMO.out⟩, HR.out⟩
    ·have hib : i = a + 1 := by omega
     have hba : b = a := by omega
     refine ⟨F, ⟨fun x y h1 h2 h3 => by omega, ⟨fun x hx => ?_, fun x h1 h2 => by omega⟩⟩, HR.out⟩
     by_cases hxa : x = a
     ·rw [hxa]
      obtain ⟨y, y1, y2, e⟩ := HMO.out.mem a (Nat.le_refl _) (by omega)
      rw [e]; congr 1; omega
     ·exact HMO.out.same x (by omega))
   go_wp2_with fail
   go_end0
   exact ⟨rfl, HFIN.out, HO.out⟩
set_option maxRecDepth 100000 in
set_option maxHeartbeats 8000000 in
theorem symA (w : World) (g n a b : Nat) (f : Nat → Int) (cf : FuncId) (caps : Array Value) (key : Int → Int) (hab : a + 1 < b) (hn : n ≤ 1000000) (hb : b ≤ n) (hin : RowIn f n) (hg : w.heap[g]? = some (.cells (rowF f n) 3 (0,0))) (hc : CmpOk cf caps g n key w) (eg : Enters Tryz.prog cf)
 (hB : SortedF (keyLt key) f (a + 1) b) (hasc : ∀ y, a + 1 ≤ y → y < b → f a < f y) :
 Calls Tryz.prog 239 #[.slice (some ⟨g, 0, none⟩) n n, .int .i64 (a : Int), .int .i64 ((a + 1 : Nat) : Int), .int .i64 (b : Int), .func (.func cf) #[] caps] w fun e w' => e = .returned (.tuple #[]) ∧ (∃ f', MergedF (keyLt key) f f' a b ∧ w'.heap[g]? = some (.cells (rowF f' n) 3 (0,0))) ∧ OnlyG g w w' := by
 have HIN := hidE hin
 have HAS := hidE hasc
 have HSO := hidE hB
 have HG := hidE hg
 have HC := hidE hc
 unfold Enters at eg
 obtain ⟨m, hm⟩ : ∃ m, m = a + 1 := ⟨_, rfl⟩
 rw [← hm]
 have d1 : ((m : Int) - (a : Int) == 1) = true := by simp; omega
 have HM := hidE hm
 have ham : a < m := by omega
 have hmb : m < b := by omega
 clear hin hasc hB hg hc hab hm
 go_enter Tryz.func239, Tryz.ntmps239
 go_wp2_with fail
 go_loopw [10, 11] (fun x y wr => ∃ i j : Nat, m ≤ i ∧ i ≤ j ∧ j ≤ b ∧ x = .int .i64 (i : Int) ∧ y = .int .i64 (j : Int) ∧ Hid (∀ x, a + 1 ≤ x → x < i → keyLt key (f x) (f a)) ∧ Hid (∀ x, j ≤ x → x < b → keyLt key (f a) (f x)) ∧ Hid (wr.heap[g]? = some (.cells (rowF f n) 3 (0,0))) ∧ Hid (OnlyG g w wr)) (fun x y _ => (intOf y).toNat - (intOf x).toNat)
 case atStart => exact ⟨m, b, by omega, by omega, by omega, rfl, rfl, hidE (fun x h1 h2 => by have := HM.out; omega), hidE (fun x h1 h2 => by omega), HG, hidE (OnlyG.refl _ _)⟩
 case round =>
  obtain ⟨i, j, hi0, hij, hj1, rfl, rfl, HLO, HHI, HR, HO⟩ := hrel
  obtain ⟨wx, rfl⟩ : ∃ x : World, x = wr := ⟨wr, rfl⟩
  by_cases hlt : i < j
  ·have hdl : decide ((i : Int) < (j : Int)) = true := by simp; omega
   obtain ⟨h, hh0, hh1, hhe⟩ : ∃ h : Nat, i ≤ h ∧ h < j ∧ ((i : Int) + (j : Int)) / 2 = (h : Int) := ⟨(i + j) / 2, by omega, by omega, by omega⟩
   have dh : (h : Int) < (n : Int) := by omega
   have da : (a : Int) < (n : Int) := by omega
   have hrh := HIN.out h (by omega)
   have hra := HIN.out a (by omega)
   have hlate := HAS.out h (by have := HM.out; omega) (by omega)
   have e1 : wx.cell? ⟨g, h, none⟩ = some (.int .i64 (f h)) := by rw [cell_of_row _ _ _ _ _ _ HR.out, rowF_get _ (by omega)]
   have e2 : wx.cell? ⟨g, a, none⟩ = some (.int .i64 (f a)) := by rw [cell_of_row _ _ _ _ _ _ HR.out, rowF_get _ (by omega)]
   have HCA := hidE (fun (W : World) (hW : OnlyG g w W) => HC.out (f h) (f a) W hW hrh.1 hrh.2 hra.1 hra.2)
   have HE := hidE (show cmpV key (f h) (f a) < 0 ↔ keyLt key (f h) (f a) by rw [cmpV_neg, keyLt_late key hlate])
   have HE2 := hidE (fun hq : ¬ keyLt key (f h) (f a) => show keyLt key (f a) (f h) by
    rw [keyLt_late' key hlate, ← keyLt_late key hlate]; exact hq)
   obtain ⟨c, hce⟩ : ∃ c, cmpV key (f h) (f a) = c := ⟨_, rfl⟩
   rw [hce] at HCA HE
   clear hce hrh hra hlate
   by_cases hcn : c < 0
   ·have hcd : decide (c < 0) = true := by simpa using hcn
    have hlk := HE.out.1 hcn
    have HLO2 := hidE (fun (x : Nat) (h1 : a + 1 ≤ x) (h2 : x < h + 1) => show keyLt key (f x) (f a) by
     by_cases e : x = h
     ·rw [e]; exact hlk
     ·exact keyLt_trans key _ _ _ (HSO.out x h h1 (by omega) (by omega)) hlk)
    clear hcn hlk
    go_upto_region 5 with fail
    go_still_tail 9, (by kernel_rfl)
    change wpList _ _ _ _ _ wx.drew
    go_wp2_with (go_at_fn cf; refine (HCA.out _ (HO.out.trans (OnlyG.drew _))).mono ?_; rintro e w2 ⟨rfl, nd, rfl⟩)
    go_roundw
    case rel => exact ⟨h + 1, j, by omega, by omega, hj1, by go_num, rfl, HLO2, HHI, HR, hidE (HO.out.trans (OnlyG.drewN _ _))⟩
    case measure => simp [intOf]; omega
   ·have hcd : decide (c < 0) = false := by simpa using hcn
    have hlk := HE2.out (fun hq => hcn (HE.out.2 hq))
    have HHI2 := hidE (fun (x : Nat) (h1 : h ≤ x) (h2 : x < b) => show keyLt key (f a) (f x) by
     by_cases e : x = h
     ·rw [e]; exact hlk
     ·exact keyLt_trans key _ _ _ hlk (HSO.out h x (by have := HM.out; omega) (by omega) h2))
    clear hcn hlk
    go_upto_region 5 with fail
    go_still_tail 9, (by kernel_rfl)
    change wpList _ _ _ _ _ wx.drew
    go_wp2_with (go_at_fn cf; refine (HCA.out _ (HO.out.trans (OnlyG.drew _))).mono ?_; rintro e w2 ⟨rfl, nd, rfl⟩)
    go_roundw
    case rel => exact ⟨i, h, hi0, hh0, by omega, rfl, rfl, HLO, HHI2, HR, hidE (HO.out.trans (OnlyG.drewN _ _))⟩
    case measure => simp [intOf]; omega
  ·obtain rfl : j = i := by omega
   have hdl : decide ((j : Int) < (j : Int)) = false := by simp
   obtain ⟨t, ht⟩ : ∃ t, j = t + 1 := ⟨j - 1, by omega⟩
   have hjt : (j : Int) - 1 = (t : Int) := by omega
   have hwt : IntKind.i64.wrap (t : Int) = (t : Int) := IntWalk.i64_in _ (by omega)
   have hat : a ≤ t := by omega
   have htb : t + 1 ≤ b := by omega
   have HFIN := hidE (show MergedF (keyLt key) f (rotF f a (a + 1) (t + 1)) a b by
    rw [ht] at HLO HHI
    exact insert_first (keyLt_trans key) (by omega) (by omega) HSO.out HLO.out (fun hq => HHI.out _ (Nat.le_refl _) hq))
   clear ht
   go_wp2_with fail
   go_loopw [13] (fun x wr => ∃ k : Nat, a ≤ k ∧ k ≤ t ∧ x = .int .i64 (k : Int) ∧ Hid (wr.heap[g]? = some (.cells (rowF (rotF f a (a + 1) (k + 1)) n) 3 (0,0))) ∧ Hid (OnlyG g w wr)) (fun x _ => t - (intOf x).toNat)
   case atStart => exact ⟨a, Nat.le_refl _, hat, rfl, hidE (by rw [rotF_none]; exact HR.out), HO⟩
   case round =>
    obtain ⟨k, hk0, hk1, rfl, HR2, HO2⟩ := hrel
    obtain ⟨wy, rfl⟩ : ∃ x : World, x = wr := ⟨wr, rfl⟩
    by_cases hkt : k < t
    ·have hdk : decide ((k : Int) < (t : Int)) = true := by simp; omega
     obtain ⟨l, hl⟩ : ∃ l, l = k + 1 := ⟨_, rfl⟩
     obtain ⟨G, hGe⟩ : ∃ G, rotF f a (a + 1) (k + 1) = G := ⟨_, rfl⟩
     have HSW := hidE (show swapF G k l 1 = rotF f a (a + 1) (k + 1 + 1) by rw [← hGe, hl]; exact rot_up f a k hk0)
     rw [hGe] at HR2
     have hqn : l < n := by omega
     have hpn : k < n := by omega
     have HPQ : Hid (k ≠ l) := hidE (by omega)
     have hwq : IntKind.i64.wrap ((k : Int) + 1) = (l : Int) := by rw [IntWalk.i64_in _ (by omega)]; omega
     have HR := HR2
     have HOY := HO2
     have e1 : wy.cell? ⟨g, k, none⟩ = some (.int .i64 (G k)) := by rw [cell_of_row _ _ _ _ _ _ HR.out, rowF_get _ hpn]
     have e2 : wy.cell? ⟨g, l, none⟩ = some (.int .i64 (G l)) := by rw [cell_of_row _ _ _ _ _ _ HR.out, rowF_get _ hqn]
     have f1 : wy.frozen? ⟨g, k, none⟩ = false := frozen_of_row _ _ _ _ _ HR.out
     clear HR2 HO2 hGe hl
     have hS0 : wy.drew.cell? ⟨g, k, none⟩ = some (.int .i64 (G k)) ∧ wy.drew.cell? ⟨g, l, none⟩ = some (.int .i64 (G l)) := ⟨e1, e2⟩
     go_upto_region 11 with fail
     refine wp_region_G (S := fun V => V.cell? ⟨g, k, none⟩ = some (.int .i64 (G k)) ∧ V.cell? ⟨g, l, none⟩ = some (.int .i64 (G l))) (T := fun t => decide (14 ≤ t)) (by kernel_rfl) ?_
     refine t_g 0 61 (.slice (some ⟨g, 0, none⟩) n n) rfl (by kernel_rfl) rfl (fun _ _ _ h => h) (fun V hV => ?_) (.inr hS0) ?_
     ·simp [go_sem, execOp]
     try simp only [s_a, s_b, s_c]
     refine t_g 1 62 (.int .i64 (k : Int)) rfl (by kernel_rfl) rfl (fun _ _ _ h => h) (fun V hV => ?_) (.inr hS0) ?_
     ·simp [go_sem, execOp]
     try simp only [s_a, s_b, s_c]
     refine t_g 2 63 (.slice (some ⟨g, 0, none⟩) n n) rfl (by kernel_rfl) rfl (fun _ _ _ h => h) (fun V hV => ?_) (.inr hS0) ?_
     ·simp [go_sem, execOp]
     try simp only [s_a, s_b, s_c]
     refine t_g 3 64 (.int .i64 (k : Int)) rfl (by kernel_rfl) rfl (fun _ _ _ h => h) (fun V hV => ?_) (.inr hS0) ?_
     ·simp [go_sem, execOp]
     try simp only [s_a, s_b, s_c]
     refine t_g 4 65 (.int .i64 (l : Int)) rfl (by kernel_rfl) rfl (fun _ _ _ h => h) (fun V hV => ?_) (.inr hS0) ?_
     ·simp [go_sem, execOp, hwq]
     try simp only [s_a, s_b, s_c]
     refine t_g 5 66 (.slice (some ⟨g, 0, none⟩) n n) rfl (by kernel_rfl) rfl (fun _ _ _ h => h) (fun V hV => ?_) (.inr hS0) ?_
     ·simp [go_sem, execOp]
     try simp only [s_a, s_b, s_c]
     refine t_g 6 67 (.int .i64 (k : Int)) rfl (by kernel_rfl) rfl (fun _ _ _ h => h) (fun V hV => ?_) (.inr hS0) ?_
     ·simp [go_sem, execOp]
     try simp only [s_a, s_b, s_c]
     refine t_g 7 68 (.int .i64 (l : Int)) rfl (by kernel_rfl) rfl (fun _ _ _ h => h) (fun V hV => ?_) (.inr hS0) ?_
     ·simp [go_sem, execOp, hwq]
     try simp only [s_a, s_b, s_c]
     refine t_g 8 69 (.pointer (some ⟨g, l, none⟩)) rfl (by kernel_rfl) rfl (fun _ _ _ h => h) (fun V hV => ?_) (.inr hS0) ?_
     ·simp [go_sem, execOp, hqn]
     try simp only [s_a, s_b, s_c]
     refine wpAnyG_load (i := 9) (d := 70) (v := .int .i64 (G l)) rfl rfl rfl (by kernel_rfl) (by kernel_rfl) (by kernel_rfl) (by kernel_rfl) (by kernel_rfl) (fun _ _ _ h => h) (.inl ⟨rfl, fun V hV => ?_⟩) hS0 ?_
     ·obtain ⟨z0, z1⟩ := hV
      simp [go_sem, execOp, z1]
     try simp only [s_a, s_b, s_c]
     refine t_g 10 71 (.slice (some ⟨g, 0, none⟩) n n) rfl (by kernel_rfl) rfl (fun _ _ _ h => h) (fun V hV => ?_) (.inr hS0) ?_
     ·simp [go_sem, execOp]
     try simp only [s_a, s_b, s_c]
     refine t_g 11 72 (.int .i64 (k : Int)) rfl (by kernel_rfl) rfl (fun _ _ _ h => h) (fun V hV => ?_) (.inr hS0) ?_
     ·simp [go_sem, execOp]
     try simp only [s_a, s_b, s_c]
     refine t_g 12 73 (.pointer (some ⟨g, k, none⟩)) rfl (by kernel_rfl) rfl (fun _ _ _ h => h) (fun V hV => ?_) (.inr hS0) ?_
     ·simp [go_sem, execOp, hpn]
     try simp only [s_a, s_b, s_c]
     refine wpAnyG_load (i := 13) (d := 74) (v := .int .i64 (G k)) rfl rfl rfl (by kernel_rfl) (by kernel_rfl) (by kernel_rfl) (by kernel_rfl) (by kernel_rfl) (fun _ _ _ h => h) (.inl ⟨rfl, fun V hV => ?_⟩) hS0 ?_
     ·obtain ⟨z0, z1⟩ := hV
      simp [go_sem, execOp, z0]
     try simp only [s_a, s_b, s_c]
     refine wpAnyG_step 14 rfl (by kernel_rfl) (fun K hK => ?_)
     go_simp
     refine hK.out _ _ (.inl ⟨14, rfl, by kernel_rfl⟩) ?_
     clear hK K
     try simp only [Act.put, s_a, s_b, s_c]
     refine wpAnyG_step 15 rfl (by kernel_rfl) (fun K hK => ?_)
     go_simp
     refine hK.out _ _ (.inl ⟨15, rfl, by kernel_rfl⟩) ?_
     clear hK K
     try simp only [Act.put, s_a, s_b, s_c]
     have R1 : ((wy.setCell ⟨g, k, none⟩ (.int .i64 (G l))).drew).heap[g]? = some (.cells (rowF (fun x => if x = k then G l else G x) n) 3 (0,0)) := by
      refine (heap_setCell_same _ _ _ _ _ _ HR.out).trans ?_
      rw [rowF_set]
     have e3 : ((wy.setCell ⟨g, k, none⟩ (.int .i64 (G l))).drew).cell? ⟨g, l, none⟩ = some (.int .i64 (G l)) := by
      rw [cell_of_row _ _ _ _ _ _ R1, rowF_get _ hqn]
      have h2 : ¬ l = k := fun e => HPQ.out e.symm
      simp [h2]
     have f3 : ((wy.setCell ⟨g, k, none⟩ (.int .i64 (G l))).drew).frozen? ⟨g, l, none⟩ = false := frozen_of_row _ _ _ _ _ R1
     refine wpAnyG_step 16 rfl (by kernel_rfl) (fun K hK => ?_)
     go_simp
     refine hK.out _ _ (.inl ⟨16, rfl, by kernel_rfl⟩) ?_
     clear hK K
     try simp only [Act.put, s_a, s_b, s_c]
     refine wpAnyG_step 17 rfl (by kernel_rfl) (fun K hK => ?_)
     go_simp
     refine hK.out _ _ (.inl ⟨17, rfl, by kernel_rfl⟩) ?_
     clear hK K
     try simp only [Act.put, s_a, s_b, s_c]
     refine wpAnyG_done (by kernel_rfl) ?_ _
     have HN := hidE (show (((wy.setCell ⟨g, k, none⟩ (.int .i64 (G l))).setCell ⟨g, l, none⟩ (.int .i64 (G k))).drew).heap[g]? = some (.cells (rowF (swapF G k l 1) n) 3 (0,0)) from (heap_setCell_same _ _ _ _ _ _ (show (wy.setCell ⟨g, k, none⟩ (.int .i64 (G l))).heap[g]? = _ from R1)).trans (by rw [rowF_set, ← swap_one G k l HPQ.out]))
     have HO2 := hidE (show OnlyG g w (((wy.setCell ⟨g, k, none⟩ (.int .i64 (G l))).setCell ⟨g, l, none⟩ (.int .i64 (G k))).drew) from (((HOY.out.trans (OnlyG.set _ _ _)).trans (OnlyG.set _ _ _)).trans (OnlyG.drew _)))
     clear R1 e3 f3 hS0 e1 e2 f1
     rw [HSW.out] at HN
     clear hwq
     go_wp2_with fail
     go_roundw
     case rel => exact ⟨k + 1, by omega, by omega, by go_num, HN, HO2⟩
     case measure => simp [intOf]; omega
    ·obtain rfl : k = t := by omega
     have hdk : decide ((k : Int) < (k : Int)) = false := by simp
     go_wp2_with fail
     refine bodyPost_ret (results_none rfl _ _ _) rfl ?_
     exact ⟨rfl, ⟨_, HFIN.out, HR2.out⟩, HO2.out⟩
set_option maxRecDepth 100000 in
set_option maxHeartbeats 8000000 in
theorem symB (w : World) (g n a m b : Nat) (f : Nat → Int) (cf : FuncId) (caps : Array Value) (key : Int → Int) (ham : a + 1 < m) (hmb : b = m + 1) (hn : n ≤ 1000000) (hb : b ≤ n) (hin : RowIn f n) (hg : w.heap[g]? = some (.cells (rowF f n) 3 (0,0))) (hc : CmpOk cf caps g n key w) (eg : Enters Tryz.prog cf)
 (hA : SortedF (keyLt key) f a m) (hasc : ∀ y, a ≤ y → y < m → f y < f m) :
 Calls Tryz.prog 239 #[.slice (some ⟨g, 0, none⟩) n n, .int .i64 (a : Int), .int .i64 (m : Int), .int .i64 (b : Int), .func (.func cf) #[] caps] w fun e w' => e = .returned (.tuple #[]) ∧ (∃ f', MergedF (keyLt key) f f' a b ∧ w'.heap[g]? = some (.cells (rowF f' n) 3 (0,0))) ∧ OnlyG g w w' := by
 have HIN := hidE hin
 have HAS := hidE hasc
 have HSO := hidE hA
 have HG := hidE hg
 have HC := hidE hc
 unfold Enters at eg
 have d1 : ((m : Int) - (a : Int) == 1) = false := by simp; omega
 have d2 : ((b : Int) - (m : Int) == 1) = true := by simp; omega
 have HM := hidE hmb
 have hmn : m < n := by omega
 clear hin hasc hA hg hc hmb
 go_enter Tryz.func239, Tryz.ntmps239
 go_wp2_with fail
 go_loopw [14, 15] (fun x y wr => ∃ i j : Nat, a ≤ i ∧ i ≤ j ∧ j ≤ m ∧ x = .int .i64 (i : Int) ∧ y = .int .i64 (j : Int) ∧ Hid (∀ x, a ≤ x → x < i → keyLt key (f x) (f m)) ∧ Hid (∀ x, j ≤ x → x < m → keyLt key (f m) (f x)) ∧ Hid (wr.heap[g]? = some (.cells (rowF f n) 3 (0,0))) ∧ Hid (OnlyG g w wr)) (fun x y _ => (intOf y).toNat - (intOf x).toNat)
 case atStart => exact ⟨a, m, by omega, by omega, by omega, rfl, rfl, hidE (fun x h1 h2 => by omega), hidE (fun x h1 h2 => by omega), HG, hidE (OnlyG.refl _ _)⟩
 case round =>
  obtain ⟨i, j, hi0, hij, hj1, rfl, rfl, HLO, HHI, HR, HO⟩ := hrel
  obtain ⟨wx, rfl⟩ : ∃ x : World, x = wr := ⟨wr, rfl⟩
  by_cases hlt : i < j
  ·have hdl : decide ((i : Int) < (j : Int)) = true := by simp; omega
   obtain ⟨h, hh0, hh1, hhe⟩ : ∃ h : Nat, i ≤ h ∧ h < j ∧ ((i : Int) + (j : Int)) / 2 = (h : Int) := ⟨(i + j) / 2, by omega, by omega, by omega⟩
   have dh : (h : Int) < (n : Int) := by omega
   have da : (m : Int) < (n : Int) := by omega
   have hrh := HIN.out h (by omega)
   have hrm := HIN.out m (by omega)
   have hlate := HAS.out h (by omega) (by omega)
   have e1 : wx.cell? ⟨g, m, none⟩ = some (.int .i64 (f m)) := by rw [cell_of_row _ _ _ _ _ _ HR.out, rowF_get _ (by omega)]
   have e2 : wx.cell? ⟨g, h, none⟩ = some (.int .i64 (f h)) := by rw [cell_of_row _ _ _ _ _ _ HR.out, rowF_get _ (by omega)]
   have HCA := hidE (fun (W : World) (hW : OnlyG g w W) => HC.out (f m) (f h) W hW hrm.1 hrm.2 hrh.1 hrh.2)
   have HE := hidE (show cmpV key (f m) (f h) < 0 ↔ keyLt key (f m) (f h) by rw [cmpV_neg, keyLt_late key hlate])
   have HE2 := hidE (fun hq : ¬ keyLt key (f m) (f h) => show keyLt key (f h) (f m) by
    rw [keyLt_late' key hlate, ← keyLt_late key hlate]; exact hq)
   obtain ⟨c, hce⟩ : ∃ c, cmpV key (f m) (f h) = c := ⟨_, rfl⟩
   rw [hce] at HCA HE
   clear hce hrh hrm hlate
   by_cases hcn : c < 0
   ·have hcd : decide (c < 0) = true := by simpa using hcn
    have hlk := HE.out.1 hcn
    have HHI2 := hidE (fun (x : Nat) (h1 : h ≤ x) (h2 : x < m) => show keyLt key (f m) (f x) by
     by_cases e : x = h
     ·rw [e]; exact hlk
     ·exact keyLt_trans key _ _ _ hlk (HSO.out h x (by omega) (by omega) h2))
    clear hcn hlk
    go_upto_region 17 with fail
    go_still_tail 9, (by kernel_rfl)
    change wpList _ _ _ _ _ wx.drew
    go_wp2_with (go_at_fn cf; refine (HCA.out _ (HO.out.trans (OnlyG.drew _))).mono ?_; rintro e w2 ⟨rfl, nd, rfl⟩)
    go_roundw
    case rel => exact ⟨i, h, hi0, hh0, by omega, rfl, rfl, HLO, HHI2, HR, hidE (HO.out.trans (OnlyG.drewN _ _))⟩
    case measure => simp [intOf]; omega
   ·have hcd : decide (c < 0) = false := by simpa using hcn
    have hlk := HE2.out (fun hq => hcn (HE.out.2 hq))
    have HLO2 := hidE (fun (x : Nat) (h1 : a ≤ x) (h2 : x < h + 1) => show keyLt key (f x) (f m) by
     by_cases e : x = h
     ·rw [e]; exact hlk
     ·exact keyLt_trans key _ _ _ (HSO.out x h h1 (by omega) (by omega)) hlk)
    clear hcn hlk
    go_upto_region 17 with fail
    go_still_tail 9, (by kernel_rfl)
    change wpList _ _ _ _ _ wx.drew
    go_wp2_with (go_at_fn cf; refine (HCA.out _ (HO.out.trans (OnlyG.drew _))).mono ?_; rintro e w2 ⟨rfl, nd, rfl⟩)
    go_roundw
    case rel => exact ⟨h + 1, j, by omega, by omega, hj1, by go_num, rfl, HLO2, HHI, HR, hidE (HO.out.trans (OnlyG.drewN _ _))⟩
    case measure => simp [intOf]; omega
  ·obtain rfl : j = i := by omega
   have hdl : decide ((j : Int) < (j : Int)) = false := by simp
   have HFIN := hidE (show MergedF (keyLt key) f (rotF f j m (m + 1)) a b by
    rw [HM.out]
    exact insert_last (keyLt_trans key) hi0 hj1 HSO.out (fun hq => HLO.out _ (by omega) (by omega)) HHI.out)
   go_wp2_with fail
   go_loopw [17] (fun x wr => ∃ k : Nat, j ≤ k ∧ k ≤ m ∧ x = .int .i64 (k : Int) ∧ Hid (wr.heap[g]? = some (.cells (rowF (rotF f k m (m + 1)) n) 3 (0,0))) ∧ Hid (OnlyG g w wr)) (fun x _ => (intOf x).toNat)
   case atStart => exact ⟨m, hj1, Nat.le_refl _, rfl, hidE (by rw [rotF_none']; exact HR.out), HO⟩
   case round =>
    obtain ⟨k, hk0, hk1, rfl, HR2, HO2⟩ := hrel
    obtain ⟨wy, rfl⟩ : ∃ x : World, x = wr := ⟨wr, rfl⟩
    by_cases hkt : j < k
    ·have hdk : decide ((k : Int) > (j : Int)) = true := by simp; omega
     obtain ⟨l, hl⟩ : ∃ l, k = l + 1 := ⟨k - 1, by omega⟩
     obtain ⟨G, hGe⟩ : ∃ G, rotF f k m (m + 1) = G := ⟨_, rfl⟩
     have HSW := hidE (show swapF G k l 1 = rotF f l m (m + 1) by rw [← hGe, hl]; exact rot_down f l m (by omega))
     rw [hGe] at HR2
     have hqn : l < n := by omega
     have hpn : k < n := by omega
     have HPQ : Hid (k ≠ l) := hidE (by omega)
     have hwq : IntKind.i64.wrap ((k : Int) - 1) = (l : Int) := by rw [IntWalk.i64_in _ (by omega)]; omega
     have HR := HR2
     have HOY := HO2
     have e1 : wy.cell? ⟨g, k, none⟩ = some (.int .i64 (G k)) := by rw [cell_of_row _ _ _ _ _ _ HR.out, rowF_get _ hpn]
     have e2 : wy.cell? ⟨g, l, none⟩ = some (.int .i64 (G l)) := by rw [cell_of_row _ _ _ _ _ _ HR.out, rowF_get _ hqn]
     have f1 : wy.frozen? ⟨g, k, none⟩ = false := frozen_of_row _ _ _ _ _ HR.out
     have HL := hidE hl
     clear HR2 HO2 hGe hl
     have hS0 : wy.drew.cell? ⟨g, k, none⟩ = some (.int .i64 (G k)) ∧ wy.drew.cell? ⟨g, l, none⟩ = some (.int .i64 (G l)) := ⟨e1, e2⟩
     go_upto_region 23 with fail
     refine wp_region_G (S := fun V => V.cell? ⟨g, k, none⟩ = some (.int .i64 (G k)) ∧ V.cell? ⟨g, l, none⟩ = some (.int .i64 (G l))) (T := fun t => decide (14 ≤ t)) (by kernel_rfl) ?_
     refine t_g 0 113 (.slice (some ⟨g, 0, none⟩) n n) rfl (by kernel_rfl) rfl (fun _ _ _ h => h) (fun V hV => ?_) (.inr hS0) ?_
     ·simp [go_sem, execOp]
     try simp only [s_a, s_b, s_c]
     refine t_g 1 114 (.int .i64 (k : Int)) rfl (by kernel_rfl) rfl (fun _ _ _ h => h) (fun V hV => ?_) (.inr hS0) ?_
     ·simp [go_sem, execOp]
     try simp only [s_a, s_b, s_c]
     refine t_g 2 115 (.slice (some ⟨g, 0, none⟩) n n) rfl (by kernel_rfl) rfl (fun _ _ _ h => h) (fun V hV => ?_) (.inr hS0) ?_
     ·simp [go_sem, execOp]
     try simp only [s_a, s_b, s_c]
     refine t_g 3 116 (.int .i64 (k : Int)) rfl (by kernel_rfl) rfl (fun _ _ _ h => h) (fun V hV => ?_) (.inr hS0) ?_
     ·simp [go_sem, execOp]
     try simp only [s_a, s_b, s_c]
     refine t_g 4 117 (.int .i64 (l : Int)) rfl (by kernel_rfl) rfl (fun _ _ _ h => h) (fun V hV => ?_) (.inr hS0) ?_
     ·simp [go_sem, execOp, hwq]
     try simp only [s_a, s_b, s_c]
     refine t_g 5 118 (.slice (some ⟨g, 0, none⟩) n n) rfl (by kernel_rfl) rfl (fun _ _ _ h => h) (fun V hV => ?_) (.inr hS0) ?_
     ·simp [go_sem, execOp]
     try simp only [s_a, s_b, s_c]
     refine t_g 6 119 (.int .i64 (k : Int)) rfl (by kernel_rfl) rfl (fun _ _ _ h => h) (fun V hV => ?_) (.inr hS0) ?_
     ·simp [go_sem, execOp]
     try simp only [s_a, s_b, s_c]
     refine t_g 7 120 (.int .i64 (l : Int)) rfl (by kernel_rfl) rfl (fun _ _ _ h => h) (fun V hV => ?_) (.inr hS0) ?_
     ·simp [go_sem, execOp, hwq]
     try simp only [s_a, s_b, s_c]
     refine t_g 8 121 (.pointer (some ⟨g, l, none⟩)) rfl (by kernel_rfl) rfl (fun _ _ _ h => h) (fun V hV => ?_) (.inr hS0) ?_
     ·simp [go_sem, execOp, hqn]
     try simp only [s_a, s_b, s_c]
     refine wpAnyG_load (i := 9) (d := 122) (v := .int .i64 (G l)) rfl rfl rfl (by kernel_rfl) (by kernel_rfl) (by kernel_rfl) (by kernel_rfl) (by kernel_rfl) (fun _ _ _ h => h) (.inl ⟨rfl, fun V hV => ?_⟩) hS0 ?_
     ·obtain ⟨z0, z1⟩ := hV
      simp [go_sem, execOp, z1]
     try simp only [s_a, s_b, s_c]
     refine t_g 10 123 (.slice (some ⟨g, 0, none⟩) n n) rfl (by kernel_rfl) rfl (fun _ _ _ h => h) (fun V hV => ?_) (.inr hS0) ?_
     ·simp [go_sem, execOp]
     try simp only [s_a, s_b, s_c]
     refine t_g 11 124 (.int .i64 (k : Int)) rfl (by kernel_rfl) rfl (fun _ _ _ h => h) (fun V hV => ?_) (.inr hS0) ?_
     ·simp [go_sem, execOp]
     try simp only [s_a, s_b, s_c]
     refine t_g 12 125 (.pointer (some ⟨g, k, none⟩)) rfl (by kernel_rfl) rfl (fun _ _ _ h => h) (fun V hV => ?_) (.inr hS0) ?_
     ·simp [go_sem, execOp, hpn]
     try simp only [s_a, s_b, s_c]
     refine wpAnyG_load (i := 13) (d := 126) (v := .int .i64 (G k)) rfl rfl rfl (by kernel_rfl) (by kernel_rfl) (by kernel_rfl) (by kernel_rfl) (by kernel_rfl) (fun _ _ _ h => h) (.inl ⟨rfl, fun V hV => ?_⟩) hS0 ?_
     ·obtain ⟨z0, z1⟩ := hV
      simp [go_sem, execOp, z0]
     try simp only [s_a, s_b, s_c]
     refine wpAnyG_step 14 rfl (by kernel_rfl) (fun K hK => ?_)
     go_simp
     refine hK.out _ _ (.inl ⟨14, rfl, by kernel_rfl⟩) ?_
     clear hK K
     try simp only [Act.put, s_a, s_b, s_c]
     refine wpAnyG_step 15 rfl (by kernel_rfl) (fun K hK => ?_)
     go_simp
     refine hK.out _ _ (.inl ⟨15, rfl, by kernel_rfl⟩) ?_
     clear hK K
     try simp only [Act.put, s_a, s_b, s_c]
     have R1 : ((wy.setCell ⟨g, k, none⟩ (.int .i64 (G l))).drew).heap[g]? = some (.cells (rowF (fun x => if x = k then G l else G x) n) 3 (0,0)) := by
      refine (heap_setCell_same _ _ _ _ _ _ HR.out).trans ?_
      rw [rowF_set]
     have e3 : ((wy.setCell ⟨g, k, none⟩ (.int .i64 (G l))).drew).cell? ⟨g, l, none⟩ = some (.int .i64 (G l)) := by
      rw [cell_of_row _ _ _ _ _ _ R1, rowF_get _ hqn]
      have h2 : ¬ l = k := fun e => HPQ.out e.symm
      simp [h2]
     have f3 : ((wy.setCell ⟨g, k, none⟩ (.int .i64 (G l))).drew).frozen? ⟨g, l, none⟩ = false := frozen_of_row _ _ _ _ _ R1
     refine wpAnyG_step 16 rfl (by kernel_rfl) (fun K hK => ?_)
     go_simp
     refine hK.out _ _ (.inl ⟨16, rfl, by kernel_rfl⟩) ?_
     clear hK K
     try simp only [Act.put, s_a, s_b, s_c]
     refine wpAnyG_step 17 rfl (by kernel_rfl) (fun K hK => ?_)
     go_simp
     refine hK.out _ _ (.inl ⟨17, rfl, by kernel_rfl⟩) ?_
     clear hK K
     try simp only [Act.put, s_a, s_b, s_c]
     refine wpAnyG_done (by kernel_rfl) ?_ _
     have HN := hidE (show (((wy.setCell ⟨g, k, none⟩ (.int .i64 (G l))).setCell ⟨g, l, none⟩ (.int .i64 (G k))).drew).heap[g]? = some (.cells (rowF (swapF G k l 1) n) 3 (0,0)) from (heap_setCell_same _ _ _ _ _ _ (show (wy.setCell ⟨g, k, none⟩ (.int .i64 (G l))).heap[g]? = _ from R1)).trans (by rw [rowF_set, ← swap_one G k l HPQ.out]))
     have HO2 := hidE (show OnlyG g w (((wy.setCell ⟨g, k, none⟩ (.int .i64 (G l))).setCell ⟨g, l, none⟩ (.int .i64 (G k))).drew) from (((HOY.out.trans (OnlyG.set _ _ _)).trans (OnlyG.set _ _ _)).trans (OnlyG.drew _)))
     clear R1 e3 f3 hS0 e1 e2 f1
     rw [HSW.out] at HN
     clear hwq
     have hkl : (k : Int) - 1 = (l : Int) := by have := HL.out; omega
     have hwl : IntKind.i64.wrap (l : Int) = (l : Int) := IntWalk.i64_in _ (by omega)
     go_wp2_with fail
     go_roundw
     case rel => exact ⟨l, by have := HL.out; omega, by have := HL.out; omega, rfl, HN, HO2⟩
     case measure => have := HL.out; simp [intOf]; omega
    ·obtain rfl : k = j := by omega
     have hdk : decide ((k : Int) > (k : Int)) = false := by simp
     go_wp2_with fail
     refine bodyPost_ret (results_none rfl _ _ _) rfl ?_
     exact ⟨rfl, ⟨_, HFIN.out, HR2.out⟩, HO2.out⟩
def SymOk (N : Nat) (g n : Nat) (cf : FuncId) (caps : Array Value) (key : Int → Int) : Prop :=
 ∀ (w : World) (a m b : Nat) (f : Nat → Int), b - a < N → a < m → m < b → n ≤ 1000000 → b ≤ n → RowIn f n → SortedF (keyLt key) f a m → SortedF (keyLt key) f m b → (∀ x y, a ≤ x → x < m → m ≤ y → y < b → f x < f y) → w.heap[g]? = some (.cells (rowF f n) 3 (0,0)) → CmpOk cf caps g n key w →
  Calls Tryz.prog 239 #[.slice (some ⟨g, 0, none⟩) n n, .int .i64 (a : Int), .int .i64 (m : Int), .int .i64 (b : Int), .func (.func cf) #[] caps] w fun e w' => e = .returned (.tuple #[]) ∧ (∃ f', MergedF (keyLt key) f f' a b ∧ w'.heap[g]? = some (.cells (rowF f' n) 3 (0,0))) ∧ OnlyG g w w'
theorem MergedF.same {lt : Int → Int → Prop} {f : Nat → Int} {a b : Nat} (h : SortedF lt f a b) : MergedF lt f f a b := ⟨h, MovedF.refl _ _ _⟩
structure SplitOk (key : Int → Int) (f F : Nat → Int) (a s mid e b : Nat) : Prop where
 moved : MovedF f F a b
 l1 : SortedF (keyLt key) F a s
 l2 : SortedF (keyLt key) F s mid
 r1 : SortedF (keyLt key) F mid e
 r2 : SortedF (keyLt key) F e b
 cross : ∀ x y, a ≤ x → x < mid → mid ≤ y → y < b → keyLt key (F x) (F y)
 ascl : ∀ x y, a ≤ x → x < s → s ≤ y → y < mid → F x < F y
 ascr : ∀ x y, mid ≤ x → x < e → e ≤ y → y < b → F x < F y
theorem splitOk {key : Int → Int} {f : Nat → Int} {a m b mid s e : Nat} (ham : a ≤ m) (hmb : m ≤ b) (hA : SortedF (keyLt key) f a m) (hB : SortedF (keyLt key) f m b) (hasc : ∀ x y, a ≤ x → x < m → m ≤ y → y < b → f x < f y)
 (hs1 : a ≤ s) (hs2 : s ≤ m) (he1 : m ≤ e) (he2 : e ≤ b) (hmid : s + (e - m) = mid) (hlo : a < s → e < b → keyLt key (f (s - 1)) (f e)) (hhi : s < m → m < e → keyLt key (f (e - 1)) (f s)) : SplitOk key f (rotF f s m e) a s mid e b := by
 obtain ⟨q1, q2, q3, q4, q5⟩ := merge_split (keyLt_trans key) ham hmb hA hB hs1 hs2 he1 he2 hmid hlo hhi
 refine ⟨(MovedF.rot f hs2 he1).wide hs1 he2, q1, q2, q3, q4, q5, fun x y x1 x2 y1 y2 => ?_, fun x y x1 x2 y1 y2 => ?_⟩
 ·simp only [rotF]
  rw [if_pos x2, if_neg (by omega), if_pos (by omega)]
  exact hasc _ _ x1 (by omega) (by omega) (by omega)
 ·simp only [rotF]
  rw [if_neg (by omega), if_neg (by omega), if_pos x2, if_neg (by omega), if_neg (by omega), if_neg (by omega)]
  exact hasc _ _ (by omega) (by omega) (by omega) y2
theorem SplitOk.whole {key : Int → Int} {f F p q : Nat → Int} {a s mid e b : Nat} (h : SplitOk key f F a s mid e b) (ha : a ≤ mid) (hb : mid ≤ b) (h1 : MergedF (keyLt key) F p a mid) (h2 : MergedF (keyLt key) p q mid b) : MergedF (keyLt key) f q a b := by
 have := merge_halves h1 h2 ha hb h.cross
 exact ⟨this.sorted, h.moved.trans this.moved⟩
set_option maxRecDepth 100000 in
set_option maxHeartbeats 16000000 in
theorem symC_up (w : World) (g n a m b mid : Nat) (f : Nat → Int) (cf : FuncId) (caps : Array Value) (key : Int → Int) (N : Nat) (IH0 : SymOk N g n cf caps key) (hN : b - a ≤ N) (ham : a + 1 < m) (hmb : m + 1 < b) (hmid : mid = (a + b) / 2) (hup : mid < m) (eg : Enters Tryz.prog cf) (hn : n ≤ 1000000) (hb : b ≤ n) (hin : RowIn f n) (hA : SortedF (keyLt key) f a m) (hB : SortedF (keyLt key) f m b) (hasc : ∀ x y, a ≤ x → x < m → m ≤ y → y < b → f x < f y) (hg : w.heap[g]? = some (.cells (rowF f n) 3 (0,0))) (hc : CmpOk cf caps g n key w) :
 Calls Tryz.prog 239 #[.slice (some ⟨g, 0, none⟩) n n, .int .i64 (a : Int), .int .i64 (m : Int), .int .i64 (b : Int), .func (.func cf) #[] caps] w fun e w' => e = .returned (.tuple #[]) ∧ (∃ f', MergedF (keyLt key) f f' a b ∧ w'.heap[g]? = some (.cells (rowF f' n) 3 (0,0))) ∧ OnlyG g w w' := by
 have HIN := hidE hin
 have HAS := hidE hasc
 have HSA := hidE hA
 have HSB := hidE hB
 have HG := hidE hg
 have HC := hidE hc
 have IH := hidE IH0
 unfold Enters at eg
 clear hin hasc hA hB hg hc IH0
 have d1 : ((m : Int) - (a : Int) == 1) = false := by simp; omega
 have d2 : ((b : Int) - (m : Int) == 1) = false := by simp; omega
 have e1 : ((a : Int) + (b : Int)) / 2 = (mid : Int) := by omega
 have hm1 : a < mid := by omega
 have hm2 : mid < b := by omega
 have hm3 : a + b ≤ 2 * mid + 1 := by omega
 have hm4 : 2 * mid ≤ a + b := by omega
 clear hmid
 obtain ⟨nn, hnn⟩ : ∃ nn : Nat, nn = mid + m := ⟨_, rfl⟩
 have e2 : (mid : Int) + (m : Int) = (nn : Int) := by omega
 obtain ⟨pp, hpp⟩ : ∃ pp : Nat, pp + 1 = nn := ⟨nn - 1, by omega⟩
 have e3 : (nn : Int) - 1 = (pp : Int) := by omega
 have HNN := hidE hnn
 have HPP := hidE hpp
 clear hnn hpp
 have dmm : decide ((m : Int) > (mid : Int)) = true := by simp; omega
 obtain ⟨s0, hs0⟩ : ∃ s0 : Nat, s0 + b = nn := ⟨nn - b, by have := HNN.out; omega⟩
 have e4 : (nn : Int) - (b : Int) = (s0 : Int) := by omega
 have hs1 : s0 ≤ mid := by have := HNN.out; omega
 have hs2 : a ≤ s0 := by have := HNN.out; omega
 have HS0 := hidE hs0
 clear hs0
 go_enter Tryz.func239, Tryz.ntmps239
 go_wp2_with fail
 go_loopw [20, 21] (fun x y wr => ∃ i j : Nat, s0 ≤ i ∧ i ≤ j ∧ j ≤ mid ∧ x = .int .i64 (i : Int) ∧ y = .int .i64 (j : Int) ∧ Hid (s0 < i → keyLt key (f (i - 1)) (f (nn - i))) ∧ Hid (j < mid → keyLt key (f (pp - j)) (f j)) ∧ Hid (wr.heap[g]? = some (.cells (rowF f n) 3 (0,0))) ∧ Hid (OnlyG g w wr)) (fun x y _ => (intOf y).toNat - (intOf x).toNat)
 case atStart => exact ⟨s0, mid, Nat.le_refl _, by omega, Nat.le_refl _, rfl, rfl, hidE (fun h => absurd h (Nat.lt_irrefl _)), hidE (fun h => absurd h (Nat.lt_irrefl _)), HG, hidE (OnlyG.refl _ _)⟩
 case round =>
  obtain ⟨i, j, hi0, hij, hj1, rfl, rfl, HLO, HHI, HR, HO⟩ := hrel
  obtain ⟨wx, rfl⟩ : ∃ x : World, x = wr := ⟨wr, rfl⟩
  by_cases hlt : i < j
  ·have hdl : decide ((i : Int) < (j : Int)) = true := by simp; omega
   obtain ⟨h, hh0, hh1, hhe⟩ : ∃ h : Nat, i ≤ h ∧ h < j ∧ ((i : Int) + (j : Int)) / 2 = (h : Int) := ⟨(i + j) / 2, by omega, by omega, by omega⟩
   obtain ⟨k, hk1, hk2, hk3⟩ : ∃ k : Nat, (pp : Int) - (h : Int) = (k : Int) ∧ m ≤ k ∧ k < b := ⟨pp - h, by have := HNN.out; have := HPP.out; omega, by have := HNN.out; have := HPP.out; omega, by have := HNN.out; have := HPP.out; have := HS0.out; omega⟩
   have ha : a ≤ h := by omega
   have hm : h < m := by omega
   have dh : (h : Int) < (n : Int) := by omega
   have dk : (k : Int) < (n : Int) := by omega
   have wk : IntKind.i64.wrap (k : Int) = (k : Int) := IntWalk.i64_in _ (by omega)
   have hrh := HIN.out h (by omega)
   have hrk := HIN.out k (by omega)
   have hlate := HAS.out h k ha hm hk2 hk3
   have c1 : wx.cell? ⟨g, k, none⟩ = some (.int .i64 (f k)) := by rw [cell_of_row _ _ _ _ _ _ HR.out, rowF_get _ (by omega)]
   have c2 : wx.cell? ⟨g, h, none⟩ = some (.int .i64 (f h)) := by rw [cell_of_row _ _ _ _ _ _ HR.out, rowF_get _ (by omega)]
   have HCA := hidE (fun (W : World) (hW : OnlyG g w W) => HC.out (f k) (f h) W hW hrk.1 hrk.2 hrh.1 hrh.2)
   have HE := hidE (show cmpV key (f k) (f h) < 0 ↔ keyLt key (f k) (f h) by rw [cmpV_neg, keyLt_late key hlate])
   have HE2 := hidE (fun hq : ¬ keyLt key (f k) (f h) => show keyLt key (f h) (f k) by
    rw [keyLt_late' key hlate, ← keyLt_late key hlate]; exact hq)
   have HKK := hidE (show pp - h = k ∧ nn - (h + 1) = k by have := HPP.out; omega)
   obtain ⟨c, hce⟩ : ∃ c, cmpV key (f k) (f h) = c := ⟨_, rfl⟩
   rw [hce] at HCA HE
   clear hce hrh hrk hlate
   by_cases hcn : c < 0
   ·have hcd : decide (c < 0) = true := by simpa using hcn
    have hlk := HE.out.1 hcn
    have HHI2 := hidE (fun (_ : h < mid) => show keyLt key (f (pp - h)) (f h) by rw [HKK.out.1]; exact hlk)
    clear hcn hlk
    go_upto_region 35 with fail
    go_still_tail 11, (by kernel_rfl)
    change wpList _ _ _ _ _ wx.drew
    go_wp2_with (go_at_fn cf; refine (HCA.out _ (HO.out.trans (OnlyG.drew _))).mono ?_; rintro e w2 ⟨rfl, nd, rfl⟩)
    go_roundw
    case rel => exact ⟨i, h, hi0, hh0, by omega, rfl, rfl, HLO, HHI2, HR, hidE (HO.out.trans (OnlyG.drewN _ _))⟩
    case measure => simp [intOf]; omega
   ·have hcd : decide (c < 0) = false := by simpa using hcn
    have hlk := HE2.out (fun hq => hcn (HE.out.2 hq))
    have HLO2 := hidE (fun (_ : s0 < h + 1) => show keyLt key (f (h + 1 - 1)) (f (nn - (h + 1))) by rw [HKK.out.2, Nat.add_sub_cancel]; exact hlk)
    clear hcn hlk
    go_upto_region 35 with fail
    go_still_tail 11, (by kernel_rfl)
    change wpList _ _ _ _ _ wx.drew
    go_wp2_with (go_at_fn cf; refine (HCA.out _ (HO.out.trans (OnlyG.drew _))).mono ?_; rintro e w2 ⟨rfl, nd, rfl⟩)
    go_roundw
    case rel => exact ⟨h + 1, j, by omega, by omega, hj1, by go_num, rfl, HLO2, HHI, HR, hidE (HO.out.trans (OnlyG.drewN _ _))⟩
    case measure => simp [intOf]; omega
  ·obtain ⟨s, hs, hs'⟩ : ∃ s, j = s ∧ i = s := ⟨j, rfl, by omega⟩
   subst hs'
   subst hs
   have hdl : decide ((j : Int) < (j : Int)) = false := by simp
   obtain ⟨s, rfl⟩ : ∃ s, s = j := ⟨_, rfl⟩
   obtain ⟨e0, he0⟩ : ∃ e0, e0 + s = nn := ⟨nn - s, by have := HNN.out; omega⟩
   have e5 : (nn : Int) - (s : Int) = (e0 : Int) := by omega
   have HSP := hidE (show SplitOk key f (rotF f s m e0) a s mid e0 b by
    have h1 := HNN.out
    have h2 := HPP.out
    have h3 := HS0.out
    refine splitOk (by omega) (by omega) HSA.out HSB.out HAS.out (by omega) (by omega) (by omega) (by omega) (by omega) (fun q1 q2 => ?_) (fun q1 q2 => ?_)
    ·have := HLO.out (by omega)
     rwa [show nn - s = e0 by omega] at this
    ·have := HHI.out (by omega)
     rwa [show pp - s = e0 - 1 by omega] at this)
   have hrel1 : e0 + s = mid + m := by have := HNN.out; omega
   have hrel2 : s0 + b = mid + m := by have := HNN.out; have := HS0.out; omega
   clear he0 HLO HHI e1 e2 e3 e4
   by_cases g1 : s < mid
   ·by_cases g2 : a < s
    ·by_cases g3 : e0 < b
     ·have k1 : decide ((s : Int) < (m : Int)) = true := by simp; omega
      have k2 : decide ((m : Int) < (e0 : Int)) = true := by simp; omega
      have k3 : decide ((a : Int) < (s : Int)) = true := by simp; omega
      have k4 : decide ((s : Int) < (mid : Int)) = true := by simp; omega
      have k5 : decide ((mid : Int) < (e0 : Int)) = true := by simp; omega
      have k6 : decide ((e0 : Int) < (b : Int)) = true := by simp; omega
      have HROT := hidE (rotate_any wx g n s m e0 f (.func (.func cf) #[] caps) hn (by omega) (by omega) (by omega) HR.out)
      go_wp2_with fail
      refine HROT.out.mono ?_
      rintro e w1 ⟨rfl, hg1, ho1⟩
      have HRF1 := hidE hg1
      have HO1 := hidE (HO.out.trans ho1)
      clear hg1 ho1
      have HSP2 := HSP.out
      obtain ⟨F, hF⟩ : ∃ F, rotF f s m e0 = F := ⟨_, rfl⟩
      rw [hF] at HSP2 HRF1
      have HSPL := hidE HSP2
      clear hF HSP2 HSP
      have HLM := hidE (IH.out w1 a s mid F (by omega) (by omega) (by omega) hn (by omega) (HIN.out.moved HSPL.out.moved hb) HSPL.out.l1 HSPL.out.l2 HSPL.out.ascl HRF1.out (HC.out.only HO1.out))
      go_wp2_with fail
      refine HLM.out.mono ?_
      rintro e w2 ⟨rfl, ⟨f2, hm2, hg2⟩, ho2⟩
      have HM2 := hidE hm2
      have HRF2 := hidE hg2
      have HO2 := hidE (HO1.out.trans ho2)
      clear hm2 hg2 ho2
      have HKEEP := hidE (fun (x : Nat) (hx : mid ≤ x) => HM2.out.moved.same x (by omega))
      have HRM := hidE (IH.out w2 mid e0 b f2 (by omega) (by omega) (by omega) hn hb ((HIN.out.moved HSPL.out.moved hb).moved HM2.out.moved (by omega)) (fun x y h1 h2 h3 => by rw [HKEEP.out x h1, HKEEP.out y (by omega)]; exact HSPL.out.r1 x y h1 h2 h3) (fun x y h1 h2 h3 => by rw [HKEEP.out x (by omega), HKEEP.out y (by omega)]; exact HSPL.out.r2 x y h1 h2 h3) (fun x y h1 h2 h3 h4 => by rw [HKEEP.out x h1, HKEEP.out y (by omega)]; exact HSPL.out.ascr x y h1 h2 h3 h4) HRF2.out (HC.out.only HO2.out))
      go_wp2_with fail
      refine HRM.out.mono ?_
      rintro e w3 ⟨rfl, ⟨f3, hm3, hg3⟩, ho3⟩
      have HF3 := hidE (show MergedF (keyLt key) f f3 a b from HSPL.out.whole (by omega) (by omega) HM2.out hm3)
      have HG3 := hidE hg3
      have HO3 := hidE (HO2.out.trans ho3)
      clear hm3 hg3 ho3
      go_wp2_with fail
      go_end0
      exact ⟨rfl, ⟨f3, HF3.out, HG3.out⟩, HO3.out⟩
     ·have k1 : decide ((s : Int) < (m : Int)) = true := by simp; omega
      have k2 : decide ((m : Int) < (e0 : Int)) = true := by simp; omega
      have k3 : decide ((a : Int) < (s : Int)) = true := by simp; omega
      have k4 : decide ((s : Int) < (mid : Int)) = true := by simp; omega
      have k5 : decide ((mid : Int) < (e0 : Int)) = true := by simp; omega
      have k6 : decide ((e0 : Int) < (b : Int)) = false := by simp; omega
      have HROT := hidE (rotate_any wx g n s m e0 f (.func (.func cf) #[] caps) hn (by omega) (by omega) (by omega) HR.out)
      go_wp2_with fail
      refine HROT.out.mono ?_
      rintro e w1 ⟨rfl, hg1, ho1⟩
      have HRF1 := hidE hg1
      have HO1 := hidE (HO.out.trans ho1)
      clear hg1 ho1
      have HSP2 := HSP.out
      obtain ⟨F, hF⟩ : ∃ F, rotF f s m e0 = F := ⟨_, rfl⟩
      rw [hF] at HSP2 HRF1
      have HSPL := hidE HSP2
      clear hF HSP2 HSP
      have HLM := hidE (IH.out w1 a s mid F (by omega) (by omega) (by omega) hn (by omega) (HIN.out.moved HSPL.out.moved hb) HSPL.out.l1 HSPL.out.l2 HSPL.out.ascl HRF1.out (HC.out.only HO1.out))
      go_wp2_with fail
      refine HLM.out.mono ?_
      rintro e w2 ⟨rfl, ⟨f2, hm2, hg2⟩, ho2⟩
      have HM2 := hidE hm2
      have HRF2 := hidE hg2
      have HO2 := hidE (HO1.out.trans ho2)
      clear hm2 hg2 ho2
      have HKEEP := hidE (fun (x : Nat) (hx : mid ≤ x) => HM2.out.moved.same x (by omega))
      have HF3 := hidE (show MergedF (keyLt key) f f2 a b from HSPL.out.whole (by omega) (by omega) HM2.out (MergedF.same (fun x y h1 h2 h3 => by rw [HKEEP.out x h1, HKEEP.out y (by omega)]; exact HSPL.out.r1 x y h1 h2 (by omega))))
      go_wp2_with fail
      go_end0
      exact ⟨rfl, ⟨f2, HF3.out, HRF2.out⟩, HO2.out⟩
    ·by_cases g3 : e0 < b
     ·exfalso; omega
     ·have k1 : decide ((s : Int) < (m : Int)) = true := by simp; omega
      have k2 : decide ((m : Int) < (e0 : Int)) = true := by simp; omega
      have k3 : decide ((a : Int) < (s : Int)) = false := by simp; omega
      have k5 : decide ((mid : Int) < (e0 : Int)) = true := by simp; omega
      have k6 : decide ((e0 : Int) < (b : Int)) = false := by simp; omega
      have HROT := hidE (rotate_any wx g n s m e0 f (.func (.func cf) #[] caps) hn (by omega) (by omega) (by omega) HR.out)
      go_wp2_with fail
      refine HROT.out.mono ?_
      rintro e w1 ⟨rfl, hg1, ho1⟩
      have HRF1 := hidE hg1
      have HO1 := hidE (HO.out.trans ho1)
      clear hg1 ho1
      have HSP2 := HSP.out
      obtain ⟨F, hF⟩ : ∃ F, rotF f s m e0 = F := ⟨_, rfl⟩
      rw [hF] at HSP2 HRF1
      have HSPL := hidE HSP2
      clear hF HSP2 HSP
      have HM2 := hidE (MergedF.same (lt := keyLt key) (f := F) (a := a) (b := mid) (fun x y h1 h2 h3 => HSPL.out.l2 x y (by omega) h2 h3))
      have HKEEP := hidE (fun (x : Nat) (hx : mid ≤ x) => HM2.out.moved.same x (by omega))
      have HF3 := hidE (show MergedF (keyLt key) f F a b from HSPL.out.whole (by omega) (by omega) HM2.out (MergedF.same (fun x y h1 h2 h3 => by rw [HKEEP.out x h1, HKEEP.out y (by omega)]; exact HSPL.out.r1 x y h1 h2 (by omega))))
      go_wp2_with fail
      go_end0
      exact ⟨rfl, ⟨F, HF3.out, HRF1.out⟩, HO1.out⟩
   ·have k1 : decide ((s : Int) < (m : Int)) = true := by simp; omega
    have k2 : decide ((m : Int) < (e0 : Int)) = false := by simp; omega
    have k3 : decide ((a : Int) < (s : Int)) = true := by simp; omega
    have k4 : decide ((s : Int) < (mid : Int)) = false := by simp; omega
    have k5 : decide ((mid : Int) < (e0 : Int)) = true := by simp; omega
    have k6 : decide ((e0 : Int) < (b : Int)) = true := by simp; omega
    have HRF1 := hidE (show wx.heap[g]? = some (.cells (rowF (rotF f s m e0) n) 3 (0,0)) by rw [show e0 = m by omega, rotF_none]; exact HR.out)
    have HSP2 := HSP.out
    obtain ⟨F, hF⟩ : ∃ F, rotF f s m e0 = F := ⟨_, rfl⟩
    rw [hF] at HSP2 HRF1
    have HSPL := hidE HSP2
    clear hF HSP2 HSP
    have HM2 := hidE (MergedF.same (lt := keyLt key) (f := F) (a := a) (b := mid) (fun x y h1 h2 h3 => HSPL.out.l1 x y h1 h2 (by omega)))
    have HKEEP := hidE (fun (x : Nat) (hx : mid ≤ x) => HM2.out.moved.same x (by omega))
    have HRM := hidE (IH.out wx mid e0 b F (by omega) (by omega) (by omega) hn hb ((HIN.out.moved HSPL.out.moved hb).moved HM2.out.moved (by omega)) (fun x y h1 h2 h3 => by rw [HKEEP.out x h1, HKEEP.out y (by omega)]; exact HSPL.out.r1 x y h1 h2 h3) (fun x y h1 h2 h3 => by rw [HKEEP.out x (by omega), HKEEP.out y (by omega)]; exact HSPL.out.r2 x y h1 h2 h3) (fun x y h1 h2 h3 h4 => by rw [HKEEP.out x h1, HKEEP.out y (by omega)]; exact HSPL.out.ascr x y h1 h2 h3 h4) HRF1.out (HC.out.only HO.out))
    go_wp2_with fail
    refine HRM.out.mono ?_
    rintro e w3 ⟨rfl, ⟨f3, hm3, hg3⟩, ho3⟩
    have HF3 := hidE (show MergedF (keyLt key) f f3 a b from HSPL.out.whole (by omega) (by omega) HM2.out hm3)
    have HG3 := hidE hg3
    have HO3 := hidE (HO.out.trans ho3)
    clear hm3 hg3 ho3
    go_wp2_with fail
    go_end0
    exact ⟨rfl, ⟨f3, HF3.out, HG3.out⟩, HO3.out⟩
set_option maxRecDepth 100000 in
set_option maxHeartbeats 16000000 in
theorem symC_low (w : World) (g n a m b mid : Nat) (f : Nat → Int) (cf : FuncId) (caps : Array Value) (key : Int → Int) (N : Nat) (IH0 : SymOk N g n cf caps key) (hN : b - a ≤ N) (ham : a + 1 < m) (hmb : m + 1 < b) (hmid : mid = (a + b) / 2) (hup : m ≤ mid) (eg : Enters Tryz.prog cf) (hn : n ≤ 1000000) (hb : b ≤ n) (hin : RowIn f n) (hA : SortedF (keyLt key) f a m) (hB : SortedF (keyLt key) f m b) (hasc : ∀ x y, a ≤ x → x < m → m ≤ y → y < b → f x < f y) (hg : w.heap[g]? = some (.cells (rowF f n) 3 (0,0))) (hc : CmpOk cf caps g n key w) :
 Calls Tryz.prog 239 #[.slice (some ⟨g, 0, none⟩) n n, .int .i64 (a : Int), .int .i64 (m : Int), .int .i64 (b : Int), .func (.func cf) #[] caps] w fun e w' => e = .returned (.tuple #[]) ∧ (∃ f', MergedF (keyLt key) f f' a b ∧ w'.heap[g]? = some (.cells (rowF f' n) 3 (0,0))) ∧ OnlyG g w w' := by
 have HIN := hidE hin
 have HAS := hidE hasc
 have HSA := hidE hA
 have HSB := hidE hB
 have HG := hidE hg
 have HC := hidE hc
 have IH := hidE IH0
 unfold Enters at eg
 clear hin hasc hA hB hg hc IH0
 have d1 : ((m : Int) - (a : Int) == 1) = false := by simp; omega
 have d2 : ((b : Int) - (m : Int) == 1) = false := by simp; omega
 have e1 : ((a : Int) + (b : Int)) / 2 = (mid : Int) := by omega
 have hm1 : a < mid := by omega
 have hm2 : mid < b := by omega
 have hm3 : a + b ≤ 2 * mid + 1 := by omega
 have hm4 : 2 * mid ≤ a + b := by omega
 clear hmid
 obtain ⟨nn, hnn⟩ : ∃ nn : Nat, nn = mid + m := ⟨_, rfl⟩
 have e2 : (mid : Int) + (m : Int) = (nn : Int) := by omega
 obtain ⟨pp, hpp⟩ : ∃ pp : Nat, pp + 1 = nn := ⟨nn - 1, by omega⟩
 have e3 : (nn : Int) - 1 = (pp : Int) := by omega
 have HNN := hidE hnn
 have HPP := hidE hpp
 clear hnn hpp
 have dmm : decide ((m : Int) > (mid : Int)) = false := by simp; omega
 have dmm2 : decide (mid < m) = false := by simp; omega
 go_enter Tryz.func239, Tryz.ntmps239
 go_wp2_with fail
 go_loopw [20, 21] (fun x y wr => ∃ i j : Nat, a ≤ i ∧ i ≤ j ∧ j ≤ m ∧ x = .int .i64 (i : Int) ∧ y = .int .i64 (j : Int) ∧ Hid (a < i → keyLt key (f (i - 1)) (f (nn - i))) ∧ Hid (j < m → keyLt key (f (pp - j)) (f j)) ∧ Hid (wr.heap[g]? = some (.cells (rowF f n) 3 (0,0))) ∧ Hid (OnlyG g w wr)) (fun x y _ => (intOf y).toNat - (intOf x).toNat)
 case atStart => exact ⟨a, m, Nat.le_refl _, by omega, Nat.le_refl _, rfl, rfl, hidE (fun h => absurd h (Nat.lt_irrefl _)), hidE (fun h => absurd h (Nat.lt_irrefl _)), HG, hidE (OnlyG.refl _ _)⟩
 case round =>
  obtain ⟨i, j, hi0, hij, hj1, rfl, rfl, HLO, HHI, HR, HO⟩ := hrel
  obtain ⟨wx, rfl⟩ : ∃ x : World, x = wr := ⟨wr, rfl⟩
  by_cases hlt : i < j
  ·have hdl : decide ((i : Int) < (j : Int)) = true := by simp; omega
   obtain ⟨h, hh0, hh1, hhe⟩ : ∃ h : Nat, i ≤ h ∧ h < j ∧ ((i : Int) + (j : Int)) / 2 = (h : Int) := ⟨(i + j) / 2, by omega, by omega, by omega⟩
   obtain ⟨k, hk1, hk2, hk3⟩ : ∃ k : Nat, (pp : Int) - (h : Int) = (k : Int) ∧ m ≤ k ∧ k < b := ⟨pp - h, by have := HNN.out; have := HPP.out; omega, by have := HNN.out; have := HPP.out; omega, by have := HNN.out; have := HPP.out; omega⟩
   have ha : a ≤ h := by omega
   have hm : h < m := by omega
   have dh : (h : Int) < (n : Int) := by omega
   have dk : (k : Int) < (n : Int) := by omega
   have wk : IntKind.i64.wrap (k : Int) = (k : Int) := IntWalk.i64_in _ (by omega)
   have hrh := HIN.out h (by omega)
   have hrk := HIN.out k (by omega)
   have hlate := HAS.out h k ha hm hk2 hk3
   have c1 : wx.cell? ⟨g, k, none⟩ = some (.int .i64 (f k)) := by rw [cell_of_row _ _ _ _ _ _ HR.out, rowF_get _ (by omega)]
   have c2 : wx.cell? ⟨g, h, none⟩ = some (.int .i64 (f h)) := by rw [cell_of_row _ _ _ _ _ _ HR.out, rowF_get _ (by omega)]
   have HCA := hidE (fun (W : World) (hW : OnlyG g w W) => HC.out (f k) (f h) W hW hrk.1 hrk.2 hrh.1 hrh.2)
   have HE := hidE (show cmpV key (f k) (f h) < 0 ↔ keyLt key (f k) (f h) by rw [cmpV_neg, keyLt_late key hlate])
   have HE2 := hidE (fun hq : ¬ keyLt key (f k) (f h) => show keyLt key (f h) (f k) by
    rw [keyLt_late' key hlate, ← keyLt_late key hlate]; exact hq)
   have HKK := hidE (show pp - h = k ∧ nn - (h + 1) = k by have := HPP.out; omega)
   obtain ⟨c, hce⟩ : ∃ c, cmpV key (f k) (f h) = c := ⟨_, rfl⟩
   rw [hce] at HCA HE
   clear hce hrh hrk hlate
   by_cases hcn : c < 0
   ·have hcd : decide (c < 0) = true := by simpa using hcn
    have hlk := HE.out.1 hcn
    have HHI2 := hidE (fun (_ : h < m) => show keyLt key (f (pp - h)) (f h) by rw [HKK.out.1]; exact hlk)
    clear hcn hlk
    go_upto_region 35 with fail
    go_still_tail 11, (by kernel_rfl)
    change wpList _ _ _ _ _ wx.drew
    go_wp2_with (go_at_fn cf; refine (HCA.out _ (HO.out.trans (OnlyG.drew _))).mono ?_; rintro e w2 ⟨rfl, nd, rfl⟩)
    go_roundw
    case rel => exact ⟨i, h, hi0, hh0, by omega, rfl, rfl, HLO, HHI2, HR, hidE (HO.out.trans (OnlyG.drewN _ _))⟩
    case measure => simp [intOf]; omega
   ·have hcd : decide (c < 0) = false := by simpa using hcn
    have hlk := HE2.out (fun hq => hcn (HE.out.2 hq))
    have HLO2 := hidE (fun (_ : a < h + 1) => show keyLt key (f (h + 1 - 1)) (f (nn - (h + 1))) by rw [HKK.out.2, Nat.add_sub_cancel]; exact hlk)
    clear hcn hlk
    go_upto_region 35 with fail
    go_still_tail 11, (by kernel_rfl)
    change wpList _ _ _ _ _ wx.drew
    go_wp2_with (go_at_fn cf; refine (HCA.out _ (HO.out.trans (OnlyG.drew _))).mono ?_; rintro e w2 ⟨rfl, nd, rfl⟩)
    go_roundw
    case rel => exact ⟨h + 1, j, by omega, by omega, hj1, by go_num, rfl, HLO2, HHI, HR, hidE (HO.out.trans (OnlyG.drewN _ _))⟩
    case measure => simp [intOf]; omega
  ·obtain ⟨s, hs, hs'⟩ : ∃ s, j = s ∧ i = s := ⟨j, rfl, by omega⟩
   subst hs'
   subst hs
   have hdl : decide ((j : Int) < (j : Int)) = false := by simp
   obtain ⟨s, rfl⟩ : ∃ s, s = j := ⟨_, rfl⟩
   obtain ⟨e0, he0⟩ : ∃ e0, e0 + s = nn := ⟨nn - s, by have := HNN.out; omega⟩
   have e5 : (nn : Int) - (s : Int) = (e0 : Int) := by omega
   have HSP := hidE (show SplitOk key f (rotF f s m e0) a s mid e0 b by
    have h1 := HNN.out
    have h2 := HPP.out
    skip
    refine splitOk (by omega) (by omega) HSA.out HSB.out HAS.out (by omega) (by omega) (by omega) (by omega) (by omega) (fun q1 q2 => ?_) (fun q1 q2 => ?_)
    ·have := HLO.out (by omega)
     rwa [show nn - s = e0 by omega] at this
    ·have := HHI.out (by omega)
     rwa [show pp - s = e0 - 1 by omega] at this)
   have hrel1 : e0 + s = mid + m := by have := HNN.out; omega
   skip
   clear he0 HLO HHI e1 e2 e3
   by_cases g1 : s < m
   ·by_cases g2 : a < s
    ·by_cases g3 : e0 < b
     ·have k1 : decide ((s : Int) < (m : Int)) = true := by simp; omega
      have k2 : decide ((m : Int) < (e0 : Int)) = true := by simp; omega
      have k3 : decide ((a : Int) < (s : Int)) = true := by simp; omega
      have k4 : decide ((s : Int) < (mid : Int)) = true := by simp; omega
      have k5 : decide ((mid : Int) < (e0 : Int)) = true := by simp; omega
      have k6 : decide ((e0 : Int) < (b : Int)) = true := by simp; omega
      have HROT := hidE (rotate_any wx g n s m e0 f (.func (.func cf) #[] caps) hn (by omega) (by omega) (by omega) HR.out)
      go_wp2_with fail
      refine HROT.out.mono ?_
      rintro e w1 ⟨rfl, hg1, ho1⟩
      have HRF1 := hidE hg1
      have HO1 := hidE (HO.out.trans ho1)
      clear hg1 ho1
      have HSP2 := HSP.out
      obtain ⟨F, hF⟩ : ∃ F, rotF f s m e0 = F := ⟨_, rfl⟩
      rw [hF] at HSP2 HRF1
      have HSPL := hidE HSP2
      clear hF HSP2 HSP
      have HLM := hidE (IH.out w1 a s mid F (by omega) (by omega) (by omega) hn (by omega) (HIN.out.moved HSPL.out.moved hb) HSPL.out.l1 HSPL.out.l2 HSPL.out.ascl HRF1.out (HC.out.only HO1.out))
      go_wp2_with fail
      refine HLM.out.mono ?_
      rintro e w2 ⟨rfl, ⟨f2, hm2, hg2⟩, ho2⟩
      have HM2 := hidE hm2
      have HRF2 := hidE hg2
      have HO2 := hidE (HO1.out.trans ho2)
      clear hm2 hg2 ho2
      have HKEEP := hidE (fun (x : Nat) (hx : mid ≤ x) => HM2.out.moved.same x (by omega))
      have HRM := hidE (IH.out w2 mid e0 b f2 (by omega) (by omega) (by omega) hn hb ((HIN.out.moved HSPL.out.moved hb).moved HM2.out.moved (by omega)) (fun x y h1 h2 h3 => by rw [HKEEP.out x h1, HKEEP.out y (by omega)]; exact HSPL.out.r1 x y h1 h2 h3) (fun x y h1 h2 h3 => by rw [HKEEP.out x (by omega), HKEEP.out y (by omega)]; exact HSPL.out.r2 x y h1 h2 h3) (fun x y h1 h2 h3 h4 => by rw [HKEEP.out x h1, HKEEP.out y (by omega)]; exact HSPL.out.ascr x y h1 h2 h3 h4) HRF2.out (HC.out.only HO2.out))
      go_wp2_with fail
      refine HRM.out.mono ?_
      rintro e w3 ⟨rfl, ⟨f3, hm3, hg3⟩, ho3⟩
      have HF3 := hidE (show MergedF (keyLt key) f f3 a b from HSPL.out.whole (by omega) (by omega) HM2.out hm3)
      have HG3 := hidE hg3
      have HO3 := hidE (HO2.out.trans ho3)
      clear hm3 hg3 ho3
      go_wp2_with fail
      go_end0
      exact ⟨rfl, ⟨f3, HF3.out, HG3.out⟩, HO3.out⟩
     ·exfalso; omega
    ·by_cases g3 : e0 < b
     ·have k1 : decide ((s : Int) < (m : Int)) = true := by simp; omega
      have k2 : decide ((m : Int) < (e0 : Int)) = true := by simp; omega
      have k3 : decide ((a : Int) < (s : Int)) = false := by simp; omega
      have k5 : decide ((mid : Int) < (e0 : Int)) = true := by simp; omega
      have k6 : decide ((e0 : Int) < (b : Int)) = true := by simp; omega
      have HROT := hidE (rotate_any wx g n s m e0 f (.func (.func cf) #[] caps) hn (by omega) (by omega) (by omega) HR.out)
      go_wp2_with fail
      refine HROT.out.mono ?_
      rintro e w1 ⟨rfl, hg1, ho1⟩
      have HRF1 := hidE hg1
      have HO1 := hidE (HO.out.trans ho1)
      clear hg1 ho1
      have HSP2 := HSP.out
      obtain ⟨F, hF⟩ : ∃ F, rotF f s m e0 = F := ⟨_, rfl⟩
      rw [hF] at HSP2 HRF1
      have HSPL := hidE HSP2
      clear hF HSP2 HSP
      have HM2 := hidE (MergedF.same (lt := keyLt key) (f := F) (a := a) (b := mid) (fun x y h1 h2 h3 => HSPL.out.l2 x y (by omega) h2 h3))
      have HKEEP := hidE (fun (x : Nat) (hx : mid ≤ x) => HM2.out.moved.same x (by omega))
      have HRM := hidE (IH.out w1 mid e0 b F (by omega) (by omega) (by omega) hn hb ((HIN.out.moved HSPL.out.moved hb).moved HM2.out.moved (by omega)) (fun x y h1 h2 h3 => by rw [HKEEP.out x h1, HKEEP.out y (by omega)]; exact HSPL.out.r1 x y h1 h2 h3) (fun x y h1 h2 h3 => by rw [HKEEP.out x (by omega), HKEEP.out y (by omega)]; exact HSPL.out.r2 x y h1 h2 h3) (fun x y h1 h2 h3 h4 => by rw [HKEEP.out x h1, HKEEP.out y (by omega)]; exact HSPL.out.ascr x y h1 h2 h3 h4) HRF1.out (HC.out.only HO1.out))
      go_wp2_with fail
      refine HRM.out.mono ?_
      rintro e w3 ⟨rfl, ⟨f3, hm3, hg3⟩, ho3⟩
      have HF3 := hidE (show MergedF (keyLt key) f f3 a b from HSPL.out.whole (by omega) (by omega) HM2.out hm3)
      have HG3 := hidE hg3
      have HO3 := hidE (HO1.out.trans ho3)
      clear hm3 hg3 ho3
      go_wp2_with fail
      go_end0
      exact ⟨rfl, ⟨f3, HF3.out, HG3.out⟩, HO3.out⟩
     ·have k1 : decide ((s : Int) < (m : Int)) = true := by simp; omega
      have k2 : decide ((m : Int) < (e0 : Int)) = true := by simp; omega
      have k3 : decide ((a : Int) < (s : Int)) = false := by simp; omega
      have k5 : decide ((mid : Int) < (e0 : Int)) = true := by simp; omega
      have k6 : decide ((e0 : Int) < (b : Int)) = false := by simp; omega
      have HROT := hidE (rotate_any wx g n s m e0 f (.func (.func cf) #[] caps) hn (by omega) (by omega) (by omega) HR.out)
      go_wp2_with fail
      refine HROT.out.mono ?_
      rintro e w1 ⟨rfl, hg1, ho1⟩
      have HRF1 := hidE hg1
      have HO1 := hidE (HO.out.trans ho1)
      clear hg1 ho1
      have HSP2 := HSP.out
      obtain ⟨F, hF⟩ : ∃ F, rotF f s m e0 = F := ⟨_, rfl⟩
      rw [hF] at HSP2 HRF1
      have HSPL := hidE HSP2
      clear hF HSP2 HSP
      have HM2 := hidE (MergedF.same (lt := keyLt key) (f := F) (a := a) (b := mid) (fun x y h1 h2 h3 => HSPL.out.l2 x y (by omega) h2 h3))
      have HKEEP := hidE (fun (x : Nat) (hx : mid ≤ x) => HM2.out.moved.same x (by omega))
      have HF3 := hidE (show MergedF (keyLt key) f F a b from HSPL.out.whole (by omega) (by omega) HM2.out (MergedF.same (fun x y h1 h2 h3 => by rw [HKEEP.out x h1, HKEEP.out y (by omega)]; exact HSPL.out.r1 x y h1 h2 (by omega))))
      go_wp2_with fail
      go_end0
      exact ⟨rfl, ⟨F, HF3.out, HRF1.out⟩, HO1.out⟩
   ·by_cases g2 : s < mid
    ·have k1 : decide ((s : Int) < (m : Int)) = false := by simp; omega
     have k3 : decide ((a : Int) < (s : Int)) = true := by simp; omega
     have k4 : decide ((s : Int) < (mid : Int)) = true := by simp; omega
     have k5 : decide ((mid : Int) < (e0 : Int)) = false := by simp; omega
     have HRF1 := hidE (show wx.heap[g]? = some (.cells (rowF (rotF f s m e0) n) 3 (0,0)) by rw [show s = m by omega, rotF_none']; exact HR.out)
     have HSP2 := HSP.out
     obtain ⟨F, hF⟩ : ∃ F, rotF f s m e0 = F := ⟨_, rfl⟩
     rw [hF] at HSP2 HRF1
     have HSPL := hidE HSP2
     clear hF HSP2 HSP
     have HLM := hidE (IH.out wx a s mid F (by omega) (by omega) (by omega) hn (by omega) (HIN.out.moved HSPL.out.moved hb) HSPL.out.l1 HSPL.out.l2 HSPL.out.ascl HRF1.out (HC.out.only HO.out))
     go_wp2_with fail
     refine HLM.out.mono ?_
     rintro e w2 ⟨rfl, ⟨f2, hm2, hg2⟩, ho2⟩
     have HM2 := hidE hm2
     have HRF2 := hidE hg2
     have HO2 := hidE (HO.out.trans ho2)
     clear hm2 hg2 ho2
     have HKEEP := hidE (fun (x : Nat) (hx : mid ≤ x) => HM2.out.moved.same x (by omega))
     have HF3 := hidE (show MergedF (keyLt key) f f2 a b from HSPL.out.whole (by omega) (by omega) HM2.out (MergedF.same (fun x y h1 h2 h3 => by rw [HKEEP.out x h1, HKEEP.out y (by omega)]; exact HSPL.out.r2 x y (by omega) h2 h3)))
     go_wp2_with fail
     go_end0
     exact ⟨rfl, ⟨f2, HF3.out, HRF2.out⟩, HO2.out⟩
    ·have k1 : decide ((s : Int) < (m : Int)) = false := by simp; omega
     have k3 : decide ((a : Int) < (s : Int)) = true := by simp; omega
     have k4 : decide ((s : Int) < (mid : Int)) = false := by simp; omega
     have k5 : decide ((mid : Int) < (e0 : Int)) = false := by simp; omega
     have HRF1 := hidE (show wx.heap[g]? = some (.cells (rowF (rotF f s m e0) n) 3 (0,0)) by rw [show s = m by omega, rotF_none']; exact HR.out)
     have HSP2 := HSP.out
     obtain ⟨F, hF⟩ : ∃ F, rotF f s m e0 = F := ⟨_, rfl⟩
     rw [hF] at HSP2 HRF1
     have HSPL := hidE HSP2
     clear hF HSP2 HSP
     have HM2 := hidE (MergedF.same (lt := keyLt key) (f := F) (a := a) (b := mid) (fun x y h1 h2 h3 => HSPL.out.l1 x y h1 h2 (by omega)))
     have HKEEP := hidE (fun (x : Nat) (hx : mid ≤ x) => HM2.out.moved.same x (by omega))
     have HF3 := hidE (show MergedF (keyLt key) f F a b from HSPL.out.whole (by omega) (by omega) HM2.out (MergedF.same (fun x y h1 h2 h3 => by rw [HKEEP.out x h1, HKEEP.out y (by omega)]; exact HSPL.out.r2 x y (by omega) h2 h3)))
     go_wp2_with fail
     go_end0
     exact ⟨rfl, ⟨F, HF3.out, HRF1.out⟩, HO.out⟩
theorem symMerge_any (g n : Nat) (cf : FuncId) (caps : Array Value) (key : Int → Int) (eg : Enters Tryz.prog cf) : ∀ N, SymOk N g n cf caps key
 | 0 => fun w a m b f h => by omega
 | N + 1 => by
   have IH := symMerge_any g n cf caps key eg N
   intro w a m b f hN ham hmb hn hb hin hA hB hasc hg hc
   by_cases h1 : m = a + 1
   ·subst h1
    exact symA w g n a b f cf caps key hmb hn hb hin hg hc eg hB (fun y y1 y2 => hasc a y (Nat.le_refl _) (by omega) y1 y2)
   ·by_cases h2 : b = m + 1
    ·exact symB w g n a m b f cf caps key (by omega) h2 hn hb hin hg hc eg hA (fun y y1 y2 => hasc y m y1 y2 (Nat.le_refl _) (by omega))
    ·by_cases h3 : (a + b) / 2 < m
     ·exact symC_up w g n a m b _ f cf caps key N IH (by omega) (by omega) (by omega) rfl h3 eg hn hb hin hA hB hasc hg hc
     ·exact symC_low w g n a m b _ f cf caps key N IH (by omega) (by omega) (by omega) rfl (by omega) eg hn hb hin hA hB hasc hg hc
end Go.Proofs.YthjmkmjojlfejaaGreat
