/- Merged text 15 of the base: Cf1, Cf2, Cf3, Cf4, Rw0, Cg1, Cg2. No conditions beyond those stated. -/
import Derived.Test.YthjmkmjojlfejaaGreatB04
import Derived.Test.YthjmkmjojlfejaaGreatB05
namespace Go.Proofs.YthjmkmjojlfejaaGreat
open Go Go.RowKit Go.Shelf
theorem within3_any (n a b : Int) (w : World) : Calls Tryz.prog 175 #[.int .i64 n, .int .i64 a, .int .i64 b] w fun e w' => e = .returned (.bool (inR n a b)) ∧ w = w' := by
 unfold inR
 go_enter Tryz.func175, Tryz.ntmps175
 go_wp2
 all_goals go_ret
 all_goals refine ⟨?_, rfl⟩
 all_goals simp [*]
 all_goals omega
set_option maxHeartbeats 1000000 in
theorem common3_any (p q : Par) (w : World) (hp : p.small) (hq : q.small) : Calls Tryz.prog 211 #[p.val, q.val] w fun e w' => e = .returned (.int .i64 (max 0 (min p.est q.est - max p.wst q.wst + 1))) ∧ Below w.heap.size w w' := by
 obtain ⟨pn, ps, pw, pe⟩ := p
 obtain ⟨qn, qs, qw, qe⟩ := q
 unfold Par.small at hp hq
 unfold Par.val
 dsimp only at *
 obtain ⟨m, hm⟩ : ∃ m, min pe qe = m := ⟨_, rfl⟩
 obtain ⟨M, hM⟩ : ∃ M, max pw qw = M := ⟨_, rfl⟩
 have b1 : -1000000 ≤ m ∧ m ≤ 1000000 := by omega
 have b2 : -1000000 ≤ M ∧ M ≤ 1000000 := by omega
 have w1 : IntKind.i64.wrap (m - M) = m - M := IntWalk.i64_in _ (by omega)
 have w2 : IntKind.i64.wrap (m - M + 1) = m - M + 1 := IntWalk.i64_in _ (by omega)
 rw [hm, hM]
 clear hp hq
 go_enter Tryz.func211, Tryz.ntmps211
 go_wp2_with fail
 go_ret
 exact ⟨rfl, by go_grown⟩
set_option maxRecDepth 100000 in
set_option maxHeartbeats 4000000 in
theorem refName_any (s : ByteArray) (w : World) (hs : s.size ≤ 9223372036854775807) :
 Calls Tryz.prog 173 #[.string s] w fun e w' => e = .returned (.bool (isNameB s)) ∧ w = w' := by
 obtain ⟨P, hP⟩ : ∃ P, isNameB s = P := ⟨_, rfl⟩
 rw [hP]
 by_cases h1 : s.size < 1
 ·obtain rfl : false = P := by rw [← hP]; unfold isNameB; simp; omega
  have d1 : decide ((s.size : Int) < 1) = true := by simp; omega
  clear h1 hP
  go_enter Tryz.func173, Tryz.ntmps173
  go_wp2_with fail
  go_ret
  exact ⟨rfl, rfl⟩
 have d1 : decide ((s.size : Int) < 1) = false := by simp; omega
 by_cases h2 : 24 < s.size
 ·obtain rfl : false = P := by rw [← hP]; unfold isNameB; simp; omega
  have d2 : decide ((s.size : Int) > 24) = true := by simp; omega
  have d2' : decide (24 < s.size) = true := by simp; omega
  clear h1 h2 hP
  go_enter Tryz.func173, Tryz.ntmps173
  go_wp2_with fail
  go_ret
  exact ⟨rfl, rfl⟩
 have d2 : decide ((s.size : Int) > 24) = false := by simp; omega
 have d2' : decide (24 < s.size) = false := by simp; omega
 have h0 := str_at s 0 (by omega)
 have hpos : 0 < s.size := by omega
 have HP : Hid ((lowCh s[0] && s.data.toList.all nameCh) = P) := hidE (by rw [← hP]; unfold isNameB; rw [h0]; simp [show 1 ≤ s.size by omega, show s.size ≤ 24 by omega])
 clear hP h0
 by_cases hlow : lowCh s[0] = true
 rotate_left
 ·obtain rfl : false = P := by rw [← HP.out]; simp [hlow]
  have hb : ¬ (97 ≤ s[0].toNat ∧ s[0].toNat ≤ 122) := by rw [← lowCh_iff]; exact hlow
  clear hlow HP
  by_cases g : s[0].toNat < 97
  ·have d3 : decide ((s[0].toNat : Int) < 97) = true := by simp; omega
   clear hb
   go_enter Tryz.func173, Tryz.ntmps173
   go_wp2_with fail
   go_ret
   exact ⟨rfl, rfl⟩
  ·have d3 : decide ((s[0].toNat : Int) < 97) = false := by simp; omega
   have d4 : decide ((s[0].toNat : Int) > 122) = true := by simp; omega
   clear hb
   go_enter Tryz.func173, Tryz.ntmps173
   go_wp2_with fail
   go_ret
   exact ⟨rfl, rfl⟩
 have hb : 97 ≤ s[0].toNat ∧ s[0].toNat ≤ 122 := (lowCh_iff _).1 hlow
 have d3 : decide ((s[0].toNat : Int) < 97) = false := by simp; omega
 have d4 : decide ((s[0].toNat : Int) > 122) = false := by simp; omega
 have HL := hidE hlow
 clear hlow hb
 go_enter Tryz.func173, Tryz.ntmps173
 go_wp2_with fail
 go_loop [3] (fun i => ∃ k : Nat, k ≤ s.size ∧ i = .int .i64 k ∧ Hid ((s.data.toList.take k).all nameCh = true)) (fun i => s.size - (intOf i).toNat)
 case atStart => exact ⟨0, Nat.zero_le _, rfl, hidE rfl⟩
 case round =>
  obtain ⟨k, hk, rfl, HA⟩ := hrel
  clear d3 d4
  by_cases hlt : k < s.size
  ·have HS := hidE (str_take s k hlt)
   have hni := nameCh_iff s[k]
   have HNO : Hid (nameCh s[k] = false → P = false) := hidE (fun hn => by rw [← HP.out, all_take (l := s.data.toList) (k := k) (by simpa using hlt) rfl hn, Bool.and_false])
   have HYES : Hid (nameCh s[k] = true → (s.data.toList.take (k + 1)).all nameCh = true) := hidE (fun hn => by rw [HS.out, List.all_append, HA.out]; simp [hn])
   by_cases g1 : s[k].toNat < 97
   ·have f1 : decide ((s[k].toNat : Int) < 97) = true := by simp; omega
    by_cases g2 : s[k].toNat < 48
    ·have f2 : decide ((s[k].toNat : Int) < 48) = true := by simp; omega
     by_cases g3 : s[k].toNat = 45
     ·have fe : ((s[k].toNat : Int) != 45) = false := by simp; omega
      have HN2 := hidE (HYES.out (hni.2 (by omega)))
      have HK := hidE hlt
      clear hni HYES HNO g1 g2 g3
      go_wp2_with fail
      go_round
      case rel => exact ⟨k + 1, HK.out, by go_num, HN2⟩
      case measure => have := HK.out; simp [intOf]; omega
     ·have fe : ((s[k].toNat : Int) != 45) = true := by simp; omega
      obtain rfl := HNO.out (by rw [← Bool.not_eq_true, hni]; omega)
      clear hni HYES HNO g1 g2 g3
      go_wp2_with fail
      go_ret
      exact ⟨rfl, rfl⟩
    ·have f2 : decide ((s[k].toNat : Int) < 48) = false := by simp; omega
     by_cases g3 : s[k].toNat ≤ 57
     ·have f3 : decide ((s[k].toNat : Int) > 57) = false := by simp; omega
      have HN2 := hidE (HYES.out (hni.2 (by omega)))
      have HK := hidE hlt
      clear hni HYES HNO g1 g2 g3
      go_wp2_with fail
      go_round
      case rel => exact ⟨k + 1, HK.out, by go_num, HN2⟩
      case measure => have := HK.out; simp [intOf]; omega
     ·have f3 : decide ((s[k].toNat : Int) > 57) = true := by simp; omega
      have fe : ((s[k].toNat : Int) != 45) = true := by simp; omega
      obtain rfl := HNO.out (by rw [← Bool.not_eq_true, hni]; omega)
      clear hni HYES HNO g1 g2 g3
      go_wp2_with fail
      go_ret
      exact ⟨rfl, rfl⟩
   ·have f1 : decide ((s[k].toNat : Int) < 97) = false := by simp; omega
    by_cases g2 : s[k].toNat ≤ 122
    ·have f2 : decide ((s[k].toNat : Int) > 122) = false := by simp; omega
     have HN2 := hidE (HYES.out (hni.2 (by omega)))
     have HK := hidE hlt
     clear hni HYES HNO g1 g2
     go_wp2_with fail
     go_round
     case rel => exact ⟨k + 1, HK.out, by go_num, HN2⟩
     case measure => have := HK.out; simp [intOf]; omega
    ·have f2 : decide ((s[k].toNat : Int) > 122) = true := by simp; omega
     have f3 : decide ((s[k].toNat : Int) < 48) = false := by simp; omega
     have f4 : decide ((s[k].toNat : Int) > 57) = true := by simp; omega
     have fe : ((s[k].toNat : Int) != 45) = true := by simp; omega
     obtain rfl := HNO.out (by rw [← Bool.not_eq_true, hni]; omega)
     clear hni HYES HNO g1 g2
     go_wp2_with fail
     go_ret
     exact ⟨rfl, rfl⟩
  ·have hall : s.data.toList.all nameCh = true := by have := HA.out; rwa [List.take_of_length_le (by simp; omega)] at this
   obtain rfl : true = P := by rw [← HP.out, hall, HL.out]; rfl
   clear hall
   go_wp2_with fail
   go_ret
   exact ⟨rfl, rfl⟩
theorem bytes_ne {y x : ByteArray} (e : ¬ y = x) : (y.toList == x.toList) = false := by
 have h : y.toList ≠ x.toList := fun h => e (by
  rw [ByteArray.toList_eq, ByteArray.toList_eq] at h
  cases y; cases x
  simp only at h
  congr 1
  exact Array.toList_inj.1 h)
 simpa using h
def FirstAt (l : List ByteArray) (x : ByteArray) (q : Nat) : Prop := (∃ h : q < l.length, l[q] = x) ∧ ∀ j (h : j < l.length), j < q → l[j] ≠ x
theorem firstAt_lt {l : List ByteArray} {q i : Nat} (hi : i < l.length) (h : FirstAt l l[i] q) : (decide ((q : Int) < (i : Int))) = (l.take i).any (fun y => decide (y = l[i])) := by
 obtain ⟨⟨hq, e⟩, hn⟩ := h
 by_cases c : q < i
 ·rw [show decide ((q : Int) < (i : Int)) = true by simp; omega]
  symm
  rw [List.any_eq_true]
  refine ⟨l[q], ?_, by simpa using e⟩
  rw [List.mem_take_iff_getElem]
  exact ⟨q, by omega, rfl⟩
 ·rw [show decide ((q : Int) < (i : Int)) = false by simp; omega]
  symm
  rw [List.any_eq_false]
  intro y hy
  rw [List.mem_take_iff_getElem] at hy
  obtain ⟨j, hj, rfl⟩ := hy
  have := hn j (by omega) (by omega)
  simpa using this
set_option maxHeartbeats 2000000 in
theorem refplace_any (w : World) (a : Option Addr) (cap : Nat) (l : List ByteArray) (i : Nat) (hi : i < l.length) (hl : l.length ≤ 4000) (h : StrsAt w a l) :
 Calls Tryz.prog 174 #[.slice a l.length cap, .string l[i]] w fun e w' => (∃ q : Nat, e = .returned (.int .i64 q) ∧ FirstAt l l[i] q) ∧ w = w' := by
 have H := hidE h
 obtain ⟨x, hx⟩ : ∃ x, l[i] = x := ⟨_, rfl⟩
 rw [hx]
 have HX := hidE hx
 have HI := hidE hi
 clear h hx
 go_enter Tryz.func174, Tryz.ntmps174
 go_wp2_with fail
 go_loop [5] (fun i => ∃ k : Nat, k ≤ l.length ∧ i = .int .i64 k ∧ Hid (∀ j (h : j < l.length), j < k → l[j] ≠ x)) (fun i => l.length - (intOf i).toNat)
 case atStart => exact ⟨0, Nat.zero_le _, rfl, hidE (fun j _ h => by omega)⟩
 case round =>
  obtain ⟨k, hk, rfl, HN⟩ := hrel
  by_cases hlt : k < l.length
  ·obtain ⟨b, off, rfl, hbl, hc⟩ := StrsAt.cell H.out hlt
   have HK := hidE hlt
   have hc' : w.cell? ⟨b, off + k, none⟩ = some (.string l[k]) := hc
   clear hc
   by_cases e : l[k] = x
   ·have hF := hidE (show FirstAt l x k from ⟨⟨hlt, e⟩, HN.out⟩)
    rw [e] at hc'
    clear e
    go_wp2_with fail
    go_ret
    exact ⟨⟨k, rfl, hF.out⟩, rfl⟩
   ·have HN2 : Hid (∀ j (h : j < l.length), j < k + 1 → l[j] ≠ x) := hidE (fun j hj hjk => by
     by_cases c : j = k
     ·subst c; exact e
     ·exact HN.out j hj (by omega))
    obtain ⟨y, hy⟩ : ∃ y, l[k] = y := ⟨_, rfl⟩
    rw [hy] at hc' e
    have d1 := bytes_ne e
    clear hy e
    go_wp2_with fail
    go_round
    case rel => exact ⟨k + 1, HK.out, by go_num, HN2⟩
    case measure => have := HK.out; simp [intOf]; omega
  ·exact absurd HX.out (HN.out i HI.out (by have := HI.out; omega))
set_option maxRecDepth 100000 in
set_option maxHeartbeats 8000000 in
theorem refVrns_any (w : World) (a : Option Addr) (cap : Nat) (l : List Vrn) (hl : l.length ≤ 9223372036854775807) (h : VrnsAt w a l) :
 Calls Tryz.prog 171 #[.slice a l.length cap] w fun e w' => e = .returned (.int .i64 (checkVrns l)) ∧ Below w.heap.size w w' := by
 obtain ⟨P, hP⟩ : ∃ P, checkVrns l = P := ⟨_, rfl⟩
 rw [hP]
 unfold checkVrns at hP
 by_cases h40 : 40 < l.length
 ·obtain rfl : (2 : Int) = P := by rw [if_pos h40] at hP; exact hP
  have hd : decide ((l.length : Int) > 40) = true := by simp; omega
  have hd' : decide (40 < l.length) = true := by simp; omega
  clear hP h h40
  go_enter Tryz.func171, Tryz.ntmps171
  go_wp2_with fail
  go_ret
  exact ⟨rfl, Below.refl _ _⟩
 rw [if_neg h40] at hP
 have hd : decide ((l.length : Int) > 40) = false := by simp; omega
 have hd' : decide (40 < l.length) = false := by simp; omega
 have hl40 : l.length ≤ 40 := by omega
 have HP := hidE hP
 have H := hidE h
 clear hP h h40
 go_enter Tryz.func171, Tryz.ntmps171
 go_wp2_with fail
 go_loopw [3] (fun i wr => ∃ (k : Nat), k ≤ l.length ∧ i = .int .i64 k ∧ Hid (vrnsB 0 l = vrnsB (yearTo l k) (l.drop k)) ∧ Hid (0 ≤ yearTo l k ∧ (0 < k → 1 ≤ yearTo l k) ∧ yearTo l k ≤ 3000) ∧ Hid (Below w.heap.size w wr)) (fun i _ => l.length - (intOf i).toNat)
 case atStart => exact ⟨0, Nat.zero_le _, rfl, hidE rfl, hidE ⟨Int.le_refl _, fun h => by omega, (by decide : (0 : Int) ≤ 3000)⟩, hidE (Below.refl _ _)⟩
 case round =>
  obtain ⟨k, hk, rfl, HV, HY, HB⟩ := hrel
  obtain ⟨wx, rfl⟩ : ∃ x : World, x = wr := ⟨wr, rfl⟩
  by_cases hlt : k < l.length
  ·obtain ⟨b, off, rfl, hbl, hc⟩ := RecsAt.at H.out hlt
   have c0 := hc 0 (by omega)
   have c1 := hc 1 (by omega)
   rw [← HB.out.cell hbl, Nat.add_zero] at c0
   rw [← HB.out.cell hbl] at c1
   have HS := hidE (vrnsB_drop hlt (yearTo l k))
   have hyn : yearTo l (k + 1) = l[k].year := by unfold yearTo; rw [if_neg (by omega), Nat.add_sub_cancel, List.getD_eq_getElem?_getD, List.getElem?_eq_getElem hlt]; rfl
   have hpv : ∀ j, k = j + 1 → wx.cell? ⟨b, off + j * 2, none⟩ = some (.int .i64 (yearTo l k)) := fun j e => by
    subst e
    obtain ⟨b', off', eq, _, hc'⟩ := RecsAt.at H.out (show j < l.length by omega)
    cases eq
    have q := hc' 0 (by omega)
    rw [← HB.out.cell hbl, Nat.add_zero] at q
    rw [q]
    unfold yearTo
    rw [if_neg (by omega), Nat.add_sub_cancel, List.getD_eq_getElem?_getD, List.getElem?_eq_getElem (show j < l.length by omega)]
    rfl
   have HPV := hidE hpv
   have HY0 : Hid (k = 0 → yearTo l k = 0) := hidE (fun e => by subst e; rfl)
   obtain ⟨y0, hy0⟩ : ∃ z, yearTo l k = z := ⟨_, rfl⟩
   rw [hy0] at HY0
   rw [hy0] at HS HPV HV HY
   obtain ⟨x, hx⟩ : ∃ x, l[k] = x := ⟨_, rfl⟩
   rw [hx] at c0 c1 HS hyn
   obtain ⟨xy, xe⟩ := x
   simp only [Vrn.cells, List.getElem?_cons_zero, List.getElem?_cons_succ] at c0 c1
   simp only at HS hyn
   have HYN := hidE hyn
   have HLT := hidE hlt
   have lb : b < wx.heap.size := Nat.lt_of_lt_of_le hbl HB.out.size
   clear hx hc hpv hy0 hyn
   have hyb := HY.out
   go_upto_region 7 with fail
   obtain ⟨X, hX⟩ : ∃ X, X = wx.alloc (.cells #[.int .i64 xy, .int .i64 xe] 211) := ⟨_, rfl⟩
   rw [← hX]
   have xb : X.heap[wx.heap.size]? = some (.cells #[.int .i64 xy, .int .i64 xe] 211 (0,0)) := by rw [hX]; exact heap_alloc_new _ _
   have BX := hidE (show Below wx.heap.size wx X by rw [hX]; exact (Below.refl _ _).alloc (Nat.le_refl _) _)
   have z0 : X.cell? ⟨wx.heap.size, 0, none⟩ = some (.int .i64 xy) := c_e xb rfl
   have z1 : X.cell? ⟨wx.heap.size, 1, none⟩ = some (.int .i64 xe) := c_e xb rfl
   have BW := hidE (HB.out.trans (BX.out.mono HB.out.size))
   clear hX xb c0 c1
   by_cases q1 : xy < 1
   ·have d1 : decide (xy < 1) = true := by simpa using q1
    obtain rfl : (1 : Int) = P := by
     rw [← HP.out, HV.out, HS.out, if_neg]
     unfold inR
     simp only [Bool.and_eq_true, decide_eq_true_eq]
     omega
    clear q1 hyb
    go_quiet (fail)
    go_wp2_with fail
    go_ret
    exact ⟨rfl, BW.out.trans (below_drewN' _ _)⟩
   have d1 : decide (xy < 1) = false := by simpa using q1
   by_cases q2 : 3000 < xy
   ·have d2 : decide (xy > 3000) = true := by simpa using q2
    have d2' : decide (3000 < xy) = true := by simpa using q2
    obtain rfl : (1 : Int) = P := by
     rw [← HP.out, HV.out, HS.out, if_neg]
     unfold inR
     simp only [Bool.and_eq_true, decide_eq_true_eq]
     omega
    clear q1 q2 hyb
    go_quiet (fail)
    go_wp2_with fail
    go_ret
    exact ⟨rfl, BW.out.trans (below_drewN' _ _)⟩
   have d2 : decide (xy > 3000) = false := by simpa using q2
   have d2' : decide (3000 < xy) = false := by simpa using q2
   by_cases q3 : xe < -60
   ·have d3 : decide (xe < -60) = true := by simpa using q3
    obtain rfl : (1 : Int) = P := by
     rw [← HP.out, HV.out, HS.out, if_neg]
     unfold inR
     simp only [Bool.and_eq_true, decide_eq_true_eq]
     omega
    clear q1 q2 q3 hyb
    go_quiet (fail)
    go_wp2_with fail
    go_ret
    exact ⟨rfl, BW.out.trans (below_drewN' _ _)⟩
   have d3 : decide (xe < -60) = false := by simpa using q3
   by_cases q4 : 60 < xe
   ·have d4 : decide (xe > 60) = true := by simpa using q4
    have d4' : decide (60 < xe) = true := by simpa using q4
    obtain rfl : (1 : Int) = P := by
     rw [← HP.out, HV.out, HS.out, if_neg]
     unfold inR
     simp only [Bool.and_eq_true, decide_eq_true_eq]
     omega
    clear q1 q2 q3 q4 hyb
    go_quiet (fail)
    go_wp2_with fail
    go_ret
    exact ⟨rfl, BW.out.trans (below_drewN' _ _)⟩
   have d4 : decide (xe > 60) = false := by simpa using q4
   have d4' : decide (60 < xe) = false := by simpa using q4
   rcases Nat.eq_zero_or_pos k with hk0 | hk0
   ·subst hk0
    have d5 : decide (((0 : Nat) : Int) > 0) = false := by decide
    have d5' : decide (0 < (0 : Nat)) = false := by decide
    have hy00 : y0 = 0 := HY0.out rfl
    have HV2 : Hid (vrnsB 0 l = vrnsB (yearTo l (0 + 1)) (l.drop (0 + 1))) := hidE (by
     rw [HV.out, HS.out, HYN.out]
     have e1 : inR xy (y0 + 1) 3000 = true := by unfold inR; simp; omega
     have e2 : inR xe (-60) 60 = true := by unfold inR; simp; omega
     rw [e1, e2]; rfl)
    have HY2 : Hid (0 ≤ yearTo l (0 + 1) ∧ (0 < 0 + 1 → 1 ≤ yearTo l (0 + 1)) ∧ yearTo l (0 + 1) ≤ 3000) := hidE (by rw [HYN.out]; omega)
    clear hy00 q1 q2 q3 q4 hyb
    go_quiet (fail)
    go_wp2_with fail
    go_roundw
    case rel => exact ⟨0 + 1, HLT.out, by go_num, HV2, HY2, hidE (BW.out.trans (below_drewN' _ _))⟩
    case measure => have := HLT.out; simp [intOf]; omega
   ·obtain ⟨j, rfl⟩ : ∃ j, k = j + 1 := ⟨k - 1, by omega⟩
    have d5 : decide (((j + 1 : Nat) : Int) > 0) = true := decide_eq_true (by omega)
    have d5' : decide (0 < j + 1) = true := decide_eq_true (by omega)
    have cp : X.cell? ⟨b, off + j * 2, none⟩ = some (.int .i64 y0) := (BX.out.cell (p := ⟨b, off + j * 2, none⟩) lb).trans (HPV.out j rfl)
    have hkj : ((j + 1 : Nat) : Int) - 1 = (j : Int) := by omega
    have hwj : IntKind.i64.wrap (j : Int) = (j : Int) := IntWalk.i64_in _ (by omega)
    have hjl : j < l.length := by omega
    by_cases q5 : xy ≤ y0
    ·have d6 : decide (xy ≤ y0) = true := by simpa using q5
     obtain rfl : (1 : Int) = P := by
      rw [← HP.out, HV.out, HS.out, if_neg]
      unfold inR
      simp only [Bool.and_eq_true, decide_eq_true_eq]
      omega
     clear q1 q2 q3 q4 q5 hyb
     go_quiet (fail)
     go_wp2_with fail
     go_ret
     exact ⟨rfl, BW.out.trans (below_drewN' _ _)⟩
    ·have d6 : decide (xy ≤ y0) = false := by simpa using q5
     have HV2 : Hid (vrnsB 0 l = vrnsB (yearTo l ((j + 1) + 1)) (l.drop ((j + 1) + 1))) := hidE (by
      rw [HV.out, HS.out, HYN.out]
      have e1 : inR xy (y0 + 1) 3000 = true := by unfold inR; simp; omega
      have e2 : inR xe (-60) 60 = true := by unfold inR; simp; omega
      rw [e1, e2]; rfl)
     have HY2 : Hid (0 ≤ yearTo l ((j + 1) + 1) ∧ (0 < (j + 1) + 1 → 1 ≤ yearTo l ((j + 1) + 1)) ∧ yearTo l ((j + 1) + 1) ≤ 3000) := hidE (by rw [HYN.out]; omega)
     clear q1 q2 q3 q4 q5 hyb
     go_quiet (fail)
     go_wp2_with fail
     go_roundw
     case rel => exact ⟨(j + 1) + 1, HLT.out, by go_num, HV2, HY2, hidE (BW.out.trans (below_drewN' _ _))⟩
     case measure => have := HLT.out; simp [intOf]; omega
  ·obtain rfl : k = l.length := by omega
   obtain rfl : (0 : Int) = P := by rw [← HP.out, HV.out, List.drop_length]; rfl
   go_wp2_with fail
   go_ret
   exact ⟨rfl, HB.out⟩
theorem strs_news {w : World} {b off : Nat} {l : List ByteArray} (hc : ∀ i (h : i < l.length) j, j < 1 → w.cell? ⟨b, off + i * 1 + j, none⟩ = (strCells l[i])[j]?) : ∀ j u, (l.flatMap strCells)[j]? = some u → w.cell? ((⟨b, off, none⟩ : Addr).add j) = some u := by
 intro j u hj
 rw [show ((⟨b, off, none⟩ : Addr).add j) = ⟨b, off + j, none⟩ from by unfold Addr.add; split <;> simp_all]
 have hlt : j < l.length := by
  have := (List.getElem?_eq_some_iff.1 hj).1
  rw [flatMap_len (k := 1) (fun _ => rfl)] at this
  omega
 have h1 := hc j hlt 0 (by omega)
 have h2 := flatMap_get (k := 1) (f := strCells) (fun _ => rfl) l j hlt 0 (by omega)
 rw [Nat.mul_one, Nat.add_zero] at h1 h2
 rw [h1, ← h2, hj]
theorem append_strs (w : World) (base : Nat) (v : Value) (xs : List ByteArray) (hown : w.ownsRow base 9 1 v xs.length (xs.flatMap strCells)) (a : Option Addr) (cap : Nat) (l : List ByteArray) (h : StrsAt w a l) (hn : l ≠ []) (hx : xs.length ≤ 100000) (hl : l.length ≤ 100000) (hb : base ≤ w.heap.size) (ty : TypeId) :
 ∃ v' w', (Builtin.append_ #[42, 42] ty #[v, .slice a l.length cap]).run Tryz.prog w = .ok v' w' ∧ w'.ownsRow base 9 1 v' (xs ++ l).length ((xs ++ l).flatMap strCells) ∧ Below base w w' := by
 obtain ⟨i0, hi, hz0, hz1, hz2⟩ := info_parts info9
 rcases h with e | ⟨b, off, rfl, _, hc⟩
 ·exact absurd e hn
 obtain ⟨v', w', hrun, h2, h3, _, h5⟩ := run_append_own_at (P := Tryz.prog) w base 42 ty 9 i0 _ 1 16 Tryz.underlying42 hi hz0 hz1 hz2 rfl (by decide) v _ _ hown ⟨b, off, none⟩ l.length cap (l.flatMap strCells) (flatMap_len (k := 1) (f := strCells) (fun _ => rfl) l) (strs_news hc) (by intro u hu; obtain ⟨s, _, hs⟩ := List.mem_flatMap.1 hu; simp [strCells] at hs; subst hs; rfl) (by unfold maxLen; omega) (by omega) hb
 refine ⟨v', w', hrun, by rw [List.length_append, List.flatMap_append]; exact h2, (Below.refl base w).grown h3 hb (fun q e => ?_)⟩
 rcases hown.2 with ⟨e1, _⟩ | ⟨g1, cp', cu, e1, hge, hh, _⟩
 ·rw [e1] at e; simp [Value.ownBlock] at e
 ·rw [e1] at e
  simp only [Value.ownBlock, Option.some.injEq] at e
  omega
def RNamesPost (w : World) (l : List ByteArray) (e : Ending) (w' : World) : Prop :=
 (∃ o c, e = .returned (.slice o l.length c) ∧ StrsAt w' o l ∧ l.length ≤ c ∧ c ≤ 9223372036854775807) ∧ Below w.heap.size w w'
theorem rnames_mk {w w' : World} {base : Nat} {v : Value} {l : List ByteArray} (h : w'.ownsRow base 9 1 v l.length (l.flatMap strCells)) (hb : Below w.heap.size w w') : RNamesPost w l (.returned v) w' := by
 obtain ⟨o, c, rfl, h1, h2, h3, _⟩ := recsAt_of_owns (f := strCells) (fun _ => rfl) h
 exact ⟨⟨o, c, rfl, h1, h2, h3⟩, hb⟩
theorem rnames_mk' {w w' : World} {base n : Nat} {v : Value} {l : List ByteArray} (hn : n = l.length) (h : w'.ownsRow base 9 1 v n (l.flatMap strCells)) (hb : Below w.heap.size w w') : RNamesPost w l (.returned v) w' := by
 subst hn
 exact rnames_mk h hb
set_option maxRecDepth 100000 in
set_option maxHeartbeats 2000000 in
theorem refNames0_any (w : World) (x : FV) (F : Fld) (h1 : F.sts.length ≤ 4000) (h : FldAt w x F) :
 Calls Tryz.prog 172 #[x.val F, .int .i64 0] w (RNamesPost w (F.sts.map Sta.name)) := by
 have H := hidE h.st
 clear h
 unfold FV.val FV.arr
 obtain ⟨aS, cS, aL, cL, aP, cP, aV, cV⟩ := x
 obtain ⟨st, lm, pr, vr⟩ := F
 dsimp only at h1 H ⊢
 obtain ⟨W0, hW0⟩ : ∃ W0, W0 = w.alloc (.cells #[.slice aS st.length cS, .slice aL lm.length cL, .slice aP pr.length cP, .slice aV vr.length cV] 46) := ⟨_, rfl⟩
 have hb0 : Below w.heap.size w W0 := by rw [hW0]; exact (Below.refl _ _).alloc (Nat.le_refl _) _
 have x0 : W0.heap[w.heap.size]? = some (.cells #[.slice aS st.length cS, .slice aL lm.length cL, .slice aP pr.length cP, .slice aV vr.length cV] 46 (0,0)) := by rw [hW0]; exact heap_alloc_new _ _
 have c0 : W0.cell? ⟨w.heap.size, 0, none⟩ = some (.slice aS st.length cS) := c_e x0 rfl
 have l0 : w.heap.size < W0.heap.size := lt_of_block x0
 have B0 := hidE hb0
 have C0 := hidE c0
 go_enter Tryz.func172, Tryz.ntmps172
 go_upto_region 1 with fail
 rw [← hW0]
 clear hW0 hb0 x0 c0
 go_wp2_with fail
 go_loopw [5, 6] (fun v i wr => ∃ k : Nat, k ≤ st.length ∧ i = .int .i64 k ∧ Hid (wr.ownsRow W0.heap.size 9 1 v k (((st.take k).map Sta.name).flatMap strCells)) ∧ Hid (Below W0.heap.size W0 wr))
  (fun _ i _ => st.length - (intOf i).toNat)
 case atStart => exact ⟨0, Nat.zero_le _, rfl, hidE (World.ownsRow_nil _ _ _ _), hidE (Below.refl _ _)⟩
 case round =>
  obtain ⟨k, hk, rfl, HOWN, HB⟩ := hrel
  obtain ⟨wx, rfl⟩ : ∃ x : World, x = wr := ⟨wr, rfl⟩
  have cc : wx.cell? ⟨w.heap.size, 0, none⟩ = some (.slice aS st.length cS) := (HB.out.cell (p := ⟨w.heap.size, 0, none⟩) l0).trans C0.out
  by_cases hlt : k < st.length
  ·obtain ⟨b, off, rfl, hbl, hc⟩ := RecsAt.at H.out hlt
   have HTK : Hid (((st.take (k + 1)).map Sta.name).flatMap strCells = ((st.take k).map Sta.name).flatMap strCells ++ [.string (st[k]).name]) := hidE (by rw [List.take_succ_eq_append_getElem hlt, List.map_append, List.flatMap_append]; rfl)
   obtain ⟨x, hx⟩ : ∃ x, st[k] = x := ⟨_, rfl⟩
   rw [hx] at hc HTK
   have z0 := hc 0 (by omega)
   have BW := hidE (B0.out.trans (HB.out.mono B0.out.size))
   rw [← BW.out.cell hbl, Nat.add_zero] at z0
   simp only [Sta.cells, List.getElem?_cons_zero] at z0
   clear hc hx
   have HLT := hidE hlt
   have own3 := HOWN.out.alloc (.cells #[.string x.name] 9)
   obtain ⟨v', wa, hrun, hown', hbl2, _⟩ := append_rec (w := wx.alloc (.cells #[.string x.name] 9)) (tS := 42) Tryz.underlying42 info9 rfl (by decide) (by decide) own3 (b := wx.heap.size) (news := [.string x.name]) rfl (heap_alloc_new _ _) (by intro u hu; simp at hu; subst hu; rfl) (by omega) (by have := HB.out.size; simp; omega) 42
   have HRUN := hidE hrun
   have HOW := hidE (show wa.ownsRow W0.heap.size 9 1 v' (k + 1) (((st.take (k + 1)).map Sta.name).flatMap strCells) by rw [HTK.out]; exact hown')
   have HBL := hidE ((HB.out.alloc HB.out.size _).trans hbl2)
   clear hrun hown' hbl2 own3 HTK
   go_wp2_with (at_builtin; refine wpList_op_append rfl (s := .tmp 17) (x := .tmp 24) (t := 42) rfl rfl rfl HRUN.out ?_)
   go_roundw
   case rel => exact ⟨k + 1, HLT.out, by go_num, HOW, HBL⟩
   case measure => have := HLT.out; simp [intOf]; omega
  ·obtain rfl : k = st.length := by omega
   have ho := HOWN.out
   rw [List.take_length] at ho
   have HO := hidE ho
   clear ho HOWN
   have BW := hidE (B0.out.trans (HB.out.mono B0.out.size))
   go_wp2_with fail
   go_ret
   exact rnames_mk' (List.length_map _).symm HO.out BW.out
set_option maxRecDepth 100000 in
set_option maxHeartbeats 2000000 in
theorem refNames2_any (w : World) (x : FV) (F : Fld) (h1 : F.prs.length ≤ 4000) (h : FldAt w x F) :
 Calls Tryz.prog 172 #[x.val F, .int .i64 2] w (RNamesPost w (F.prs.map Par.name)) := by
 have H := hidE h.pr
 clear h
 unfold FV.val FV.arr
 obtain ⟨aS, cS, aL, cL, aP, cP, aV, cV⟩ := x
 obtain ⟨st, lm, pr, vr⟩ := F
 dsimp only at h1 H ⊢
 obtain ⟨W0, hW0⟩ : ∃ W0, W0 = w.alloc (.cells #[.slice aS st.length cS, .slice aL lm.length cL, .slice aP pr.length cP, .slice aV vr.length cV] 46) := ⟨_, rfl⟩
 have hb0 : Below w.heap.size w W0 := by rw [hW0]; exact (Below.refl _ _).alloc (Nat.le_refl _) _
 have x0 : W0.heap[w.heap.size]? = some (.cells #[.slice aS st.length cS, .slice aL lm.length cL, .slice aP pr.length cP, .slice aV vr.length cV] 46 (0,0)) := by rw [hW0]; exact heap_alloc_new _ _
 have c0 : W0.cell? ⟨w.heap.size, 2, none⟩ = some (.slice aP pr.length cP) := c_e x0 rfl
 have l0 : w.heap.size < W0.heap.size := lt_of_block x0
 have B0 := hidE hb0
 have C0 := hidE c0
 go_enter Tryz.func172, Tryz.ntmps172
 go_upto_region 1 with fail
 rw [← hW0]
 clear hW0 hb0 x0 c0
 go_wp2_with fail
 go_loopw [5, 7] (fun v i wr => ∃ k : Nat, k ≤ pr.length ∧ i = .int .i64 k ∧ Hid (wr.ownsRow W0.heap.size 9 1 v k (((pr.take k).map Par.name).flatMap strCells)) ∧ Hid (Below W0.heap.size W0 wr))
  (fun _ i _ => pr.length - (intOf i).toNat)
 case atStart => exact ⟨0, Nat.zero_le _, rfl, hidE (World.ownsRow_nil _ _ _ _), hidE (Below.refl _ _)⟩
 case round =>
  obtain ⟨k, hk, rfl, HOWN, HB⟩ := hrel
  obtain ⟨wx, rfl⟩ : ∃ x : World, x = wr := ⟨wr, rfl⟩
  have cc : wx.cell? ⟨w.heap.size, 2, none⟩ = some (.slice aP pr.length cP) := (HB.out.cell (p := ⟨w.heap.size, 2, none⟩) l0).trans C0.out
  by_cases hlt : k < pr.length
  ·obtain ⟨b, off, rfl, hbl, hc⟩ := RecsAt.at H.out hlt
   have HTK : Hid (((pr.take (k + 1)).map Par.name).flatMap strCells = ((pr.take k).map Par.name).flatMap strCells ++ [.string (pr[k]).name]) := hidE (by rw [List.take_succ_eq_append_getElem hlt, List.map_append, List.flatMap_append]; rfl)
   obtain ⟨x, hx⟩ : ∃ x, pr[k] = x := ⟨_, rfl⟩
   rw [hx] at hc HTK
   have z0 := hc 0 (by omega)
   have BW := hidE (B0.out.trans (HB.out.mono B0.out.size))
   rw [← BW.out.cell hbl, Nat.add_zero] at z0
   simp only [Par.cells, List.getElem?_cons_zero] at z0
   clear hc hx
   have HLT := hidE hlt
   have own3 := HOWN.out.alloc (.cells #[.string x.name] 9)
   obtain ⟨v', wa, hrun, hown', hbl2, _⟩ := append_rec (w := wx.alloc (.cells #[.string x.name] 9)) (tS := 42) Tryz.underlying42 info9 rfl (by decide) (by decide) own3 (b := wx.heap.size) (news := [.string x.name]) rfl (heap_alloc_new _ _) (by intro u hu; simp at hu; subst hu; rfl) (by omega) (by have := HB.out.size; simp; omega) 42
   have HRUN := hidE hrun
   have HOW := hidE (show wa.ownsRow W0.heap.size 9 1 v' (k + 1) (((pr.take (k + 1)).map Par.name).flatMap strCells) by rw [HTK.out]; exact hown')
   have HBL := hidE ((HB.out.alloc HB.out.size _).trans hbl2)
   clear hrun hown' hbl2 own3 HTK
   go_wp2_with (at_builtin; refine wpList_op_append rfl (s := .tmp 41) (x := .tmp 48) (t := 42) rfl rfl rfl HRUN.out ?_)
   go_roundw
   case rel => exact ⟨k + 1, HLT.out, by go_num, HOW, HBL⟩
   case measure => have := HLT.out; simp [intOf]; omega
  ·obtain rfl : k = pr.length := by omega
   have ho := HOWN.out
   rw [List.take_length] at ho
   have HO := hidE ho
   clear ho HOWN
   have BW := hidE (B0.out.trans (HB.out.mono B0.out.size))
   go_wp2_with fail
   go_ret
   exact rnames_mk' (List.length_map _).symm HO.out BW.out
set_option maxRecDepth 100000 in
set_option maxHeartbeats 2000000 in
theorem refNames1_any (w : World) (x : FV) (F : Fld) (h1 : F.lms.length ≤ 4000) (h2 : 1 ≤ F.lms.length) (h : FldAt w x F) :
 Calls Tryz.prog 172 #[x.val F, .int .i64 1] w (RNamesPost w F.lms) := by
 have H := hidE h.lm
 clear h
 unfold FV.val FV.arr
 obtain ⟨aS, cS, aL, cL, aP, cP, aV, cV⟩ := x
 obtain ⟨st, lm, pr, vr⟩ := F
 dsimp only at h1 h2 H ⊢
 obtain ⟨W0, hW0⟩ : ∃ W0, W0 = w.alloc (.cells #[.slice aS st.length cS, .slice aL lm.length cL, .slice aP pr.length cP, .slice aV vr.length cV] 46) := ⟨_, rfl⟩
 have hb0 : Below w.heap.size w W0 := by rw [hW0]; exact (Below.refl _ _).alloc (Nat.le_refl _) _
 have x0 : W0.heap[w.heap.size]? = some (.cells #[.slice aS st.length cS, .slice aL lm.length cL, .slice aP pr.length cP, .slice aV vr.length cV] 46 (0,0)) := by rw [hW0]; exact heap_alloc_new _ _
 have c1 : W0.cell? ⟨w.heap.size, 1, none⟩ = some (.slice aL lm.length cL) := c_e x0 rfl
 have l0 : w.heap.size < W0.heap.size := lt_of_block x0
 have B0 := hidE hb0
 obtain ⟨v', wa, hrun, hown, hbl⟩ := append_strs W0 W0.heap.size (.slice none 0 0) [] (World.ownsRow_nil _ _ _ _) aL cL lm (H.out.below hb0 (Nat.le_refl _)) (fun e => by subst e; simp at h2) (by simp) (by omega) (Nat.le_refl _) 42
 rw [List.nil_append] at hown
 have HRUN := hidE hrun
 have HO := hidE hown
 have HBL := hidE (B0.out.trans (hbl.mono B0.out.size))
 clear hrun hown hbl
 go_enter Tryz.func172, Tryz.ntmps172
 go_upto_region 1 with fail
 rw [← hW0]
 clear hW0 hb0 x0
 go_wp2_with (at_builtin; refine wpList_op_append rfl (s := .tmp 28) (x := .tmp 30) (t := 42) rfl rfl rfl HRUN.out ?_)
 go_ret
 exact rnames_mk HO.out HBL.out
def Fld.ordB (F : Fld) : Bool := stasTo F.sts F.sts.length && parsTo F.prs F.prs.length
theorem overB_common (p q : Par) (_hp : p.small) (_hq : q.small) : overB p q = (p.south == q.south && decide (max 0 (min p.est q.est - max p.wst q.wst + 1) > 1)) := by
 unfold overB
 congr 1
 apply decide_eq_decide.2
 omega
set_option maxRecDepth 100000 in
set_option maxHeartbeats 8000000 in
theorem ordered_any (w : World) (x : FV) (F : Fld) (h1 : F.sts.length ≤ 1000) (h2 : F.prs.length ≤ 1000) (hs : ∀ p ∈ F.prs, p.small) (h : FldAt w x F) :
 Calls Tryz.prog 176 #[x.val F] w fun e w' => e = .returned (.bool F.ordB) ∧ Below w.heap.size w w' := by
 have H := hidE h
 have HSM := hidE hs
 clear h hs
 obtain ⟨Q, hQ⟩ : ∃ Q, F.ordB = Q := ⟨_, rfl⟩
 rw [hQ]
 unfold FV.val FV.arr
 obtain ⟨aS, cS, aL, cL, aP, cP, aV, cV⟩ := x
 obtain ⟨st, lm, pr, vr⟩ := F
 unfold Fld.ordB at hQ
 dsimp only at h1 h2 H hQ HSM ⊢
 have HQ := hidE hQ
 clear hQ
 obtain ⟨W0, hW0⟩ : ∃ W0, W0 = w.alloc (.cells #[.slice aS st.length cS, .slice aL lm.length cL, .slice aP pr.length cP, .slice aV vr.length cV] 46) := ⟨_, rfl⟩
 have B0 := hidE (show Below w.heap.size w W0 by rw [hW0]; exact (Below.refl _ _).alloc (Nat.le_refl _) _)
 have X0 := hidE (show W0.heap[w.heap.size]? = some (.cells #[.slice aS st.length cS, .slice aL lm.length cL, .slice aP pr.length cP, .slice aV vr.length cV] 46 (0,0)) by rw [hW0]; exact heap_alloc_new _ _)
 have l0 : w.heap.size < W0.heap.size := lt_of_block X0.out
 go_enter Tryz.func176, Tryz.ntmps176
 go_upto_region 1 with fail
 rw [← hW0]
 clear hW0
 go_wp2_with fail
 go_loopw [3] (fun i wr => ∃ k nd : Nat, 1 ≤ k ∧ (k ≤ st.length ∨ k = 1) ∧ i = .int .i64 k ∧ Hid (stasTo st k = true) ∧ wr = W0.drewN nd) (fun i _ => st.length - (intOf i).toNat)
 case atStart => exact ⟨1, 0, by omega, .inr rfl, rfl, hidE (by simp [stasTo, List.range_succ]), rfl⟩
 case round =>
  obtain ⟨k, nd, hk1, hk, rfl, HA, rfl⟩ := hrel
  have c0 : W0.cell? ⟨w.heap.size, 0, none⟩ = some (.slice aS st.length cS) := c_e X0.out rfl
  by_cases hlt : k < st.length
  ·obtain ⟨b, off, rfl, hbl, hcc⟩ := RecsAt.at H.out.st hlt
   have e1 := hcc 1 (by omega)
   obtain ⟨b', off', eq', _, hcc'⟩ := RecsAt.at H.out.st (show k - 1 < st.length by omega)
   cases eq'
   have f1 := hcc' 1 (by omega)
   rw [← B0.out.cell hbl] at e1 f1
   dsimp only at e1 f1
   simp only [Sta.cells, List.getElem?_cons_zero, List.getElem?_cons_succ] at e1 f1
   have HSUC := hidE (stasTo_succ st k)
   rw [show (st.getD (k - 1) sta0) = st[k - 1] from by simp [show k - 1 < st.length by omega], show st.getD k sta0 = st[k] from by simp [hlt]] at HSUC
   obtain ⟨u, hu⟩ : ∃ u, st[k - 1].x = u := ⟨_, rfl⟩
   obtain ⟨v, hv⟩ : ∃ v, st[k].x = v := ⟨_, rfl⟩
   rw [hu] at f1 HSUC
   rw [hv] at e1 HSUC
   obtain ⟨j, rfl⟩ : ∃ j, k = j + 1 := ⟨k - 1, by omega⟩
   simp only [Nat.add_sub_cancel] at f1
   have hj1 : (((j + 1 : Nat) : Int) - 1) = (j : Int) := by omega
   have hjw : IntKind.i64.wrap (j : Int) = (j : Int) := IntWalk.i64_in _ (by omega)
   have hdl : decide (((j + 1 : Nat) : Int) < (st.length : Int)) = true := by simp; omega
   have hjl : j < st.length := by omega
   clear hu hv hcc hcc'
   by_cases huv : u < v
   ·have hd : decide (u ≥ v) = false := by simp; omega
    have HS : Hid (stasTo st (j + 1 + 1) = true) := hidE (by rw [HSUC.out, HA.out]; simp [huv])
    clear huv
    go_wp2_with fail
    go_quiet (fail)
    go_wp2_with fail
    go_roundw
    case rel => exact ⟨j + 1 + 1, _, by omega, .inl (by omega), by go_num, HS, rfl⟩
    case measure => simp [intOf]; omega
   ·have hd : decide (u ≥ v) = true := by simp; omega
    obtain rfl : false = Q := by rw [← HQ.out, stasTo_mono (n := st.length) (k := j + 1 + 1) (by omega) (by rw [HSUC.out]; simp [huv])]; rfl
    clear huv
    go_wp2_with fail
    go_quiet (fail)
    go_wp2_with fail
    go_ret
    exact ⟨rfl, (B0.out.trans (below_drewN' _ _)).trans (below_drewN' _ _)⟩
  ·have hall : stasTo st st.length = true := by
    have h3 := HA.out
    rcases hk with h4 | h4
    ·rw [show st.length = k by omega]; exact h3
    ·subst h4
     cases hz : stasTo st st.length with
     | true => rfl
     | false => rw [stasTo_mono (k := st.length) (by omega) hz] at h3; cases h3
   have HQ2 : Hid (parsTo pr pr.length = Q) := hidE (by rw [← HQ.out, hall, Bool.true_and])
   have hdl : decide ((k : Int) < (st.length : Int)) = false := by simp; omega
   clear hall HQ HA
   go_wp2_with fail
   clear c0
   obtain ⟨W1, hw1⟩ : ∃ X : World, X = W0.drewN nd := ⟨_, rfl⟩
   rw [← hw1]
   have B1 := hidE (show Below w.heap.size w W1 by rw [hw1]; exact B0.out.trans (below_drewN' _ _))
   have X1 := hidE (show W1.heap[w.heap.size]? = some (.cells #[.slice aS st.length cS, .slice aL lm.length cL, .slice aP pr.length cP, .slice aV vr.length cV] 46 (0,0)) by rw [hw1]; exact X0.out)
   have l1 := lt_of_block X1.out
   clear hw1 hdl
   go_loopw [4] (fun i wr => ∃ k : Nat, k ≤ pr.length ∧ i = .int .i64 k ∧ Hid (parsTo pr k = true) ∧ Hid (Below W1.heap.size W1 wr)) (fun i _ => pr.length - (intOf i).toNat)
   case atStart => exact ⟨0, Nat.zero_le _, rfl, hidE rfl, hidE (Below.refl _ _)⟩
   case round =>
    obtain ⟨k, hk, rfl, HA, HB⟩ := hrel
    obtain ⟨w2, rfl⟩ : ∃ x : World, x = wr := ⟨wr, rfl⟩
    have B2 := hidE (B1.out.trans (HB.out.mono B1.out.size))
    have X2 := hidE (blk_below HB.out l1 X1.out)
    have l2 := lt_of_block X2.out
    have g2 : w2.cell? ⟨w.heap.size, 2, none⟩ = some (.slice aP pr.length cP) := c_e X2.out rfl
    by_cases hlt : k < pr.length
    ·obtain ⟨b, off, rfl, hbl, hcc⟩ := RecsAt.at H.out.pr hlt
     have HC := hidE hcc
     have e2 := hcc 2 (by omega)
     have e3 := hcc 3 (by omega)
     rw [← B2.out.cell hbl] at e2 e3
     obtain ⟨y, hy⟩ : ∃ y, pr[k] = y := ⟨_, rfl⟩
     dsimp only at e2 e3 HC
     rw [hy] at e2 e3 HC
     simp only [Par.cells, List.getElem?_cons_zero, List.getElem?_cons_succ] at e2 e3
     have HSUC := hidE (parsTo_succ pr k)
     rw [show pr.getD k par0 = y from by rw [← hy]; simp [hlt]] at HSUC
     have HYS := hidE (HSM.out y (by rw [← hy]; exact List.getElem_mem hlt))
     have HLT := hidE hlt
     clear hy hcc
     obtain ⟨yn, y0, y1, y2⟩ := y
     dsimp only at e2 e3 HSUC
     by_cases hge : y1 < y2
     ·have hd : decide (y1 ≥ y2) = false := by simp; omega
      have hd2 := hidE (show decide (y1 < y2) = true by simpa using hge)
      clear hge
      go_wp2_with fail
      go_quiet (fail)
      go_wp2_with fail
      clear hd e2 e3 g2
      go_loopw [5] (fun i wr => ∃ j : Nat, j ≤ k ∧ i = .int .i64 j ∧ Hid ((pr.take j).any (overB ⟨yn, y0, y1, y2⟩) = false) ∧ Hid (Below W1.heap.size W1 wr)) (fun i _ => k - (intOf i).toNat)
      case atStart => exact ⟨0, Nat.zero_le _, rfl, hidE rfl, hidE (HB.out.trans (below_drewN' _ _))⟩
      case round =>
       obtain ⟨j, hj, rfl, HO, HB3⟩ := hrel
       obtain ⟨w3, rfl⟩ : ∃ x : World, x = wr := ⟨wr, rfl⟩
       have B3 := hidE (B1.out.trans (HB3.out.mono B1.out.size))
       have X3 := hidE (blk_below HB3.out l1 X1.out)
       have l3 := lt_of_block X3.out
       have g2 : w3.cell? ⟨w.heap.size, 2, none⟩ = some (.slice (some ⟨b, off, none⟩) pr.length cP) := c_e X3.out rfl
       by_cases hjk : j < k
       ·have hjl : j < pr.length := by omega
        have hkl : k < pr.length := by omega
        obtain ⟨b', off', eq', _, hcc'⟩ := RecsAt.at H.out.pr hjl
        cases eq'
        have d0 := HC.out 0 (by omega)
        have d1 := HC.out 1 (by omega)
        have d2 := HC.out 2 (by omega)
        have d3 := HC.out 3 (by omega)
        have f0 := hcc' 0 (by omega)
        have f1 := hcc' 1 (by omega)
        have f2 := hcc' 2 (by omega)
        have f3 := hcc' 3 (by omega)
        rw [← B3.out.cell hbl, Nat.add_zero] at d0 f0
        rw [← B3.out.cell hbl] at d1 d2 d3 f1 f2 f3
        obtain ⟨z, hz⟩ : ∃ z, pr[j] = z := ⟨_, rfl⟩
        dsimp only at f0 f1 f2 f3
        rw [hz] at f0 f1 f2 f3
        simp only [Par.cells, List.getElem?_cons_zero, List.getElem?_cons_succ] at d0 d1 d2 d3 f0 f1 f2 f3
        have HZS := hidE (HSM.out z (by rw [← hz]; exact List.getElem_mem hjl))
        have HZ := hidE hz
        have HCM := hidE (fun W => common3_any ⟨yn, y0, y1, y2⟩ z W HYS.out HZS.out)
        have HOV := hidE (overB_common ⟨yn, y0, y1, y2⟩ z HYS.out HZS.out)
        have HJK := hidE hjk
        clear hz hcc'
        obtain ⟨zn, z0, z1, z2⟩ := z
        simp only [Par.val] at HCM
        dsimp only at f0 f1 f2 f3 HOV
        obtain ⟨m, hm⟩ : ∃ m, max 0 (min y2 z2 - max y1 z1 + 1) = m := ⟨_, rfl⟩
        rw [hm] at HCM HOV
        clear hm
        by_cases hs : y0 = z0
        ·subst hs
         by_cases hm : m > 1
         ·have hmd : decide (m > 1) = true := by simpa using hm
          have hmd' : decide (1 < m) = true := by simpa using hm
          obtain rfl : false = Q := by
           rw [← HQ2.out]
           refine (parsTo_mono (k := k + 1) (by omega) ?_).symm
           rw [HSUC.out, any_of_at (l := pr.take k) (k := j) (p := overB ⟨yn, y0, y1, y2⟩) (by simp; omega) (by simp only [List.getElem_take]; rw [HZ.out, HOV.out, hmd]; simp)]
           simp
          clear hm
          go_upto_region 14 with fail
          go_still_tail 24, (by kernel_rfl)
          change wpList _ _ _ _ _ w3.drew
          go_wp2_with (go_at_call 211; refine (HCM.out _).mono ?_; rintro e w4 ⟨rfl, hb4⟩)
          go_ret
          exact ⟨rfl, B3.out.drew.trans (hb4.mono B3.out.drew.size)⟩
         ·have hmd : decide (m > 1) = false := by simpa using hm
          have hmd' : decide (1 < m) = false := by simpa using hm
          have HO2 : Hid ((pr.take (j + 1)).any (overB ⟨yn, y0, y1, y2⟩) = false) := hidE (take_any_succ hjl HO.out (by rw [HZ.out, HOV.out, hmd]; simp))
          clear hm
          go_upto_region 14 with fail
          go_still_tail 24, (by kernel_rfl)
          change wpList _ _ _ _ _ w3.drew
          go_wp2_with (go_at_call 211; refine (HCM.out _).mono ?_; rintro e w4 ⟨rfl, hb4⟩)
          go_roundw
          case rel => exact ⟨j + 1, HJK.out, by go_num, HO2, hidE (HB3.out.drew.trans (hb4.mono HB3.out.drew.size))⟩
          case measure => have := HJK.out; simp [intOf]; omega
        ·have hsd : (y0 == z0) = false := by simpa using hs
         have HO2 : Hid ((pr.take (j + 1)).any (overB ⟨yn, y0, y1, y2⟩) = false) := hidE (take_any_succ hjl HO.out (by rw [HZ.out, HOV.out]; simp [hs]))
         clear hs
         go_upto_region 14 with fail
         go_quiet (fail)
         go_wp2_with fail
         go_roundw
         case rel => exact ⟨j + 1, HJK.out, by go_num, HO2, hidE (HB3.out.trans (below_drewN' _ _))⟩
         case measure => have := HJK.out; simp [intOf]; omega
       ·obtain rfl : j = k := by omega
        have HA2 : Hid (parsTo pr (j + 1) = true) := hidE (by rw [HSUC.out, HA.out, HO.out, hd2.out]; rfl)
        go_wp2_with fail
        go_roundw
        case rel => exact ⟨j + 1, HLT.out, by go_num, HA2, HB3⟩
        case measure => have := HLT.out; simp [intOf]; omega
     ·have hd : decide (y1 ≥ y2) = true := by simp; omega
      have hd2 : decide (y1 < y2) = false := by simpa using hge
      obtain rfl : false = Q := by rw [← HQ2.out, parsTo_mono (n := pr.length) (k := k + 1) (by omega) (by rw [HSUC.out, hd2]; simp)]
      clear hge
      go_wp2_with fail
      go_quiet (fail)
      go_wp2_with fail
      go_ret
      exact ⟨rfl, B2.out.trans (below_drewN' _ _)⟩
    ·obtain rfl : k = pr.length := by omega
     obtain rfl : true = Q := by rw [← HQ2.out, HA.out]
     go_wp2_with fail
     go_ret
     exact ⟨rfl, B2.out⟩
def Fld.nm (F : Fld) (k : Nat) : List ByteArray := F.names.getD k []
theorem Fld.nm_get (F : Fld) {k : Nat} (h : k < F.names.length) : F.names[k] = F.nm k := by unfold Fld.nm; simp [h]
theorem refNames_any (w : World) (x : FV) (F : Fld) (k : Nat) (hk : k < 3) (h1 : F.sts.length ≤ 4000) (h2 : F.lms.length ≤ 4000) (h3 : 1 ≤ F.lms.length) (h4 : F.prs.length ≤ 4000) (h : FldAt w x F) :
 Calls Tryz.prog 172 #[x.val F, .int .i64 (k : Int)] w (RNamesPost w (F.nm k)) := by
 have hk3 : k = 0 ∨ k = 1 ∨ k = 2 := by omega
 rcases hk3 with rfl | rfl | rfl
 ·exact refNames0_any w x F h1 h
 ·exact refNames1_any w x F h2 h3 h
 ·exact refNames2_any w x F h4 h
theorem nm_len (F : Fld) (k : Nat) (h1 : F.sts.length ≤ 4000) (h2 : F.lms.length ≤ 4000) (h4 : F.prs.length ≤ 4000) : (F.nm k).length ≤ 4000 := by
 unfold Fld.nm Fld.names
 match k with
 | 0 => simpa using h1
 | 1 => simpa using h2
 | 2 => simpa using h4
 | _ + 3 => simp
theorem Fld.ordB_eq (F : Fld) : F.chkC = if F.ordB = false then 30 else 0 := by
 unfold Fld.chkC Fld.ordB
 cases stasTo F.sts F.sts.length <;> cases parsTo F.prs F.prs.length <;> rfl
set_option maxRecDepth 100000 in
set_option maxHeartbeats 8000000 in
theorem refCheckField_any (w : World) (x : FV) (F : Fld) (h : FldAt w x F) : Calls Tryz.prog 121 #[x.val F] w fun e w' => e = .returned (.int .i64 F.check) ∧ Below w.heap.size w w' := by
 have H := hidE h
 obtain ⟨Q, hQ⟩ : ∃ Q, F.check = Q := ⟨_, rfl⟩
 rw [hQ]
 rw [Fld.check_eq] at hQ
 have HN0 := hidE (fun (W : World) (hb : Below w.heap.size w W) (k : Nat) (hk : k < 3) (g1 : F.sts.length ≤ 4000) (g2 : F.lms.length ≤ 4000) (g3 : 1 ≤ F.lms.length) (g4 : F.prs.length ≤ 4000) => refNames_any W x F k hk g1 g2 g3 g4 (H.out.below hb))
 have HO0 := hidE (fun (W : World) (hb : Below w.heap.size w W) (g1 : F.sts.length ≤ 1000) (g2 : F.prs.length ≤ 1000) (g3 : ∀ p ∈ F.prs, p.small) => ordered_any W x F g1 g2 g3 (H.out.below hb))
 obtain ⟨aS, cS, aL, cL, aP, cP, aV, cV⟩ := x
 obtain ⟨st, lm, pr, vr⟩ := F
 unfold FV.val FV.arr at *
 dsimp only at hQ HN0 HO0 ⊢
 clear h
 have b0 : Below w.heap.size w (w.alloc (.cells #[.slice aS st.length cS, .slice aL lm.length cL, .slice aP pr.length cP, .slice aV vr.length cV] 46)) := (Below.refl _ _).alloc (Nat.le_refl _) _
 have B0 := hidE b0
 clear b0
 by_cases h2 : 12 < st.length ∨ 10 < lm.length ∨ 40 < pr.length
 ·obtain rfl : (2 : Int) = Q := by rw [if_pos h2] at hQ; exact hQ
  clear hQ H HN0 HO0
  go_enter Tryz.func121, Tryz.ntmps121
  go_wp2_with fail
  all_goals first | (exfalso; omega) | (go_ret; exact ⟨rfl, B0.out⟩)
 rw [if_neg h2] at hQ
 have s1 : st.length ≤ 12 := by omega
 have s2 : lm.length ≤ 10 := by omega
 have s3 : pr.length ≤ 40 := by omega
 have d1 : decide ((st.length : Int) > 12) = false := by simp; omega
 have d2 : decide ((lm.length : Int) > 10) = false := by simp; omega
 have d3 : decide ((pr.length : Int) > 40) = false := by simp; omega
 clear h2
 by_cases h5 : st.length < 2 ∨ lm.length < 1
 ·obtain rfl : (5 : Int) = Q := by rw [if_pos h5] at hQ; exact hQ
  clear hQ H HN0 HO0
  go_enter Tryz.func121, Tryz.ntmps121
  go_wp2_with fail
  all_goals first | (exfalso; omega) | (go_ret; exact ⟨rfl, B0.out⟩)
 rw [if_neg h5] at hQ
 have s4 : 2 ≤ st.length := by omega
 have s5 : 1 ≤ lm.length := by omega
 have d4 : decide ((st.length : Int) < 2) = false := by simp; omega
 have d5 : decide ((lm.length : Int) < 1) = false := by simp; omega
 clear h5
 have hvr := refVrns_any (w.alloc (.cells #[.slice aS st.length cS, .slice aL lm.length cL, .slice aP pr.length cP, .slice aV vr.length cV] 46)) aV cV vr (by have := H.out.lv; dsimp only at this; omega) (H.out.vr.alloc _)
 obtain ⟨c, hc⟩ : ∃ c, checkVrns vr = c := ⟨_, rfl⟩
 rw [hc] at hvr hQ
 have HVR := hidE hvr
 clear hvr hc
 by_cases hz : c ≠ 0
 ·obtain rfl : c = Q := by rw [if_pos hz] at hQ; exact hQ
  have hzb : (c != 0) = true := by simpa using hz
  clear hQ hz HN0 HO0 H
  go_enter Tryz.func121, Tryz.ntmps121
  go_wp2_with fail
  refine HVR.out.mono ?_
  rintro e w1 ⟨rfl, hb1⟩
  have B1 := hidE (B0.out.trans (hb1.mono B0.out.size))
  clear hb1
  go_wp2_with fail
  go_ret
  exact ⟨rfl, B1.out⟩
 obtain rfl : c = 0 := by omega
 have HQ : Hid ((Fld.mk st lm pr vr).chkA = Q) := hidE (by simpa using hQ)
 clear hQ hz
 have HN := hidE (fun (W : World) (hb : Below w.heap.size w W) (k : Nat) (hk : k < 3) => HN0.out W hb k hk (by omega) (by omega) (by omega) (by omega))
 have HNL := hidE (fun (k : Nat) => nm_len (Fld.mk st lm pr vr) k (by show st.length ≤ 4000; omega) (by show lm.length ≤ 4000; omega) (by show pr.length ≤ 4000; omega))
 have HNM := hidE (fun (k : Nat) (hk : k < 3) => show ∀ s ∈ (Fld.mk st lm pr vr).nm k, s.size ≤ 9223372036854775807 by
  rw [← Fld.nm_get _ (show k < (Fld.mk st lm pr vr).names.length from hk)]
  exact H.out.nm _ (List.getElem_mem _))
 clear HN0
 go_enter Tryz.func121, Tryz.ntmps121
 go_wp2_with fail
 refine HVR.out.mono ?_
 rintro e w1 ⟨rfl, hb1⟩
 have B1 := hidE (B0.out.trans (hb1.mono B0.out.size))
 have X1 := hidE (blk_below hb1 (by simp) (heap_alloc_new w (.cells #[.slice aS st.length cS, .slice aL lm.length cL, .slice aP pr.length cP, .slice aV vr.length cV] 46)))
 have l1 := lt_of_block X1.out
 clear hb1 d1 d2 d3 d4 d5 HVR
 go_wp2_with fail
 go_loopw [4] (fun i wr => ∃ k : Nat, k ≤ 3 ∧ i = .int .i64 k ∧ Hid (((Fld.mk st lm pr vr).names.take k).any (fun l => l.any fun s => !isNameB s) = false) ∧ Hid (Below w1.heap.size w1 wr)) (fun i _ => 3 - (intOf i).toNat)
 case atStart => exact ⟨0, by omega, rfl, hidE rfl, hidE (Below.refl _ _)⟩
 case round =>
  obtain ⟨k, hk, rfl, HA, HB⟩ := hrel
  obtain ⟨w2, rfl⟩ : ∃ x : World, x = wr := ⟨wr, rfl⟩
  have B2 := hidE (B1.out.trans (HB.out.mono B1.out.size))
  have X2 := hidE (blk_below HB.out l1 X1.out)
  have l2 := lt_of_block X2.out
  have c0 : w2.cell? ⟨w.heap.size, 0, none⟩ = some (.slice aS st.length cS) := c_e X2.out rfl
  have c1 : w2.cell? ⟨w.heap.size, 1, none⟩ = some (.slice aL lm.length cL) := c_e X2.out rfl
  have c2 : w2.cell? ⟨w.heap.size, 2, none⟩ = some (.slice aP pr.length cP) := c_e X2.out rfl
  have c3 : w2.cell? ⟨w.heap.size, 3, none⟩ = some (.slice aV vr.length cV) := c_e X2.out rfl
  by_cases hlt : k < 3
  ·have hkd : decide ((k : Int) < 3) = true := by simp; omega
   have HGE := hidE (Fld.nm_get (Fld.mk st lm pr vr) (k := k) hlt)
   have HLT := hidE hlt
   have HL4 := hidE (HNL.out k)
   have HM4 := hidE (HNM.out k hlt)
   have HC := hidE (HN.out w2 B2.out k hlt)
   obtain ⟨L, hL⟩ : ∃ L, (Fld.mk st lm pr vr).nm k = L := ⟨_, rfl⟩
   rw [hL] at HGE HL4 HM4 HC
   clear hL
   go_wp2_with fail
   refine HC.out.mono ?_
   rintro e w3 ⟨⟨o, cc, rfl, hs, hc1, hc2⟩, hb3⟩
   have HS := hidE hs
   have HB3 := hidE (HB.out.trans (hb3.mono HB.out.size))
   have B3 := hidE (B1.out.trans (HB3.out.mono B1.out.size))
   have hl4 := HL4.out
   clear hs hb3 HC c0 c1 c2 c3 hkd
   go_wp2_with fail
   go_loopw [6] (fun i wr => ∃ j : Nat, j ≤ L.length ∧ i = .int .i64 j ∧ Hid ((L.take j).any (fun s => !isNameB s) = false) ∧ wr = w3) (fun i _ => L.length - (intOf i).toNat)
   case atStart => exact ⟨0, Nat.zero_le _, rfl, hidE rfl, rfl⟩
   case round =>
    obtain ⟨j, hj, rfl, HA2, hw⟩ := hrel
    obtain rfl := hw
    obtain ⟨w3, rfl⟩ : ∃ x : World, x = wr := ⟨wr, rfl⟩
    by_cases hjl : j < L.length
    ·obtain ⟨b, off, rfl, hbl, hcl⟩ := StrsAt.cell HS.out hjl
     have hsz := HM4.out L[j] (List.getElem_mem hjl)
     obtain ⟨y, hy⟩ : ∃ y, L[j] = y := ⟨_, rfl⟩
     rw [hy] at hcl hsz
     have HJL := hidE hjl
     have hrn := fun W => refName_any y W hsz
     cases hi : isNameB y with
     | false =>
       rw [hi] at hrn
       have HRN := hidE hrn
       obtain rfl : (4 : Int) = Q := by
        rw [← HQ.out]; unfold Fld.chkA
        rw [if_pos (any_of_at (l := (Fld.mk st lm pr vr).names) (k := k) (p := fun l => l.any fun s => !isNameB s) HLT.out (by simp only [HGE.out]; exact any_of_at (k := j) (p := fun s => !isNameB s) hjl (by rw [hy, hi]; rfl)))]
       clear hy hi hrn
       go_wp2_with fail
       refine (HRN.out _).mono ?_
       rintro e w5 ⟨rfl, rfl⟩
       go_wp2_with fail
       go_ret
       exact ⟨rfl, B3.out⟩
     | true =>
       rw [hi] at hrn
       have HRN := hidE hrn
       have HA3 := hidE (take_any_succ (p := fun s => !isNameB s) hjl HA2.out (by rw [hy, hi]; rfl))
       clear hy hi hrn
       go_wp2_with fail
       refine (HRN.out _).mono ?_
       rintro e w5 ⟨rfl, rfl⟩
       go_wp2_with fail
       go_roundw
       case rel => exact ⟨j + 1, HJL.out, by go_num, HA3, (by first | trivial | rfl)⟩
       case measure => have := HJL.out; simp [intOf]; omega
    ·obtain rfl : j = L.length := by omega
     have hn := any_of_take (Nat.le_refl _) HA2.out
     have HA3 := hidE (take_any_succ (l := (Fld.mk st lm pr vr).names) (p := fun l => l.any fun s => !isNameB s) (k := k) HLT.out HA.out (by simp only [HGE.out]; exact hn))
     clear hn
     go_wp2_with fail
     go_roundw
     case rel => exact ⟨k + 1, HLT.out, by go_num, HA3, HB3⟩
     case measure => have := HLT.out; simp [intOf]; omega
  ·obtain rfl : k = 3 := by omega
   have hn := any_of_take (l := (Fld.mk st lm pr vr).names) (Nat.le_refl 3) HA.out
   have HQ2 : Hid ((if (Fld.mk st lm pr vr).names.any (fun l => twiceTo l l.length) then 6 else (Fld.mk st lm pr vr).chkB) = Q) := hidE (by rw [← HQ.out]; unfold Fld.chkA; rw [hn]; rfl)
   clear hn HQ HA
   go_wp2_with fail
   clear hk c0 c1 c2 c3
   go_loopw [7] (fun i wr => ∃ k : Nat, k ≤ 3 ∧ i = .int .i64 k ∧ Hid (((Fld.mk st lm pr vr).names.take k).any (fun l => twiceTo l l.length) = false) ∧ Hid (Below w2.heap.size w2 wr)) (fun i _ => 3 - (intOf i).toNat)
   case atStart => exact ⟨0, by omega, rfl, hidE rfl, hidE (Below.refl _ _)⟩
   case round =>
    obtain ⟨k, hk, rfl, HA, HB⟩ := hrel
    obtain ⟨w3, rfl⟩ : ∃ x : World, x = wr := ⟨wr, rfl⟩
    have B3 := hidE (B2.out.trans (HB.out.mono B2.out.size))
    have X3 := hidE (blk_below HB.out l2 X2.out)
    have l3 := lt_of_block X3.out
    have c0 : w3.cell? ⟨w.heap.size, 0, none⟩ = some (.slice aS st.length cS) := c_e X3.out rfl
    have c1 : w3.cell? ⟨w.heap.size, 1, none⟩ = some (.slice aL lm.length cL) := c_e X3.out rfl
    have c2 : w3.cell? ⟨w.heap.size, 2, none⟩ = some (.slice aP pr.length cP) := c_e X3.out rfl
    have c3 : w3.cell? ⟨w.heap.size, 3, none⟩ = some (.slice aV vr.length cV) := c_e X3.out rfl
    by_cases hlt : k < 3
    ·have hkd : decide ((k : Int) < 3) = true := by simp; omega
     have HGE := hidE (Fld.nm_get (Fld.mk st lm pr vr) (k := k) hlt)
     have HLT := hidE hlt
     have HL4 := hidE (HNL.out k)
     have HC := hidE (HN.out w3 B3.out k hlt)
     obtain ⟨L, hL⟩ : ∃ L, (Fld.mk st lm pr vr).nm k = L := ⟨_, rfl⟩
     rw [hL] at HGE HL4 HC
     clear hL
     go_wp2_with fail
     refine HC.out.mono ?_
     rintro e w4 ⟨⟨o, cc, rfl, hs, hc1, hc2⟩, hb4⟩
     have HS := hidE hs
     have HB4 := hidE (HB.out.trans (hb4.mono HB.out.size))
     have B4 := hidE (B2.out.trans (HB4.out.mono B2.out.size))
     have hl4 := HL4.out
     clear hs hb4 HC c0 c1 c2 c3 hkd
     go_wp2_with fail
     go_loopw [9] (fun i wr => ∃ j : Nat, j ≤ L.length ∧ i = .int .i64 j ∧ Hid (twiceTo L j = false) ∧ wr = w4) (fun i _ => L.length - (intOf i).toNat)
     case atStart => exact ⟨0, Nat.zero_le _, rfl, hidE rfl, rfl⟩
     case round =>
      obtain ⟨j, hj, rfl, HA2, hw⟩ := hrel
      obtain rfl := hw
      obtain ⟨w4, rfl⟩ : ∃ x : World, x = wr := ⟨wr, rfl⟩
      by_cases hjl : j < L.length
      ·obtain ⟨b, off, rfl, hbl, hcl⟩ := StrsAt.cell HS.out hjl
       have hrp := fun cap => refplace_any w4 (some ⟨b, off, none⟩) cap L j hjl hl4 HS.out
       have hfl := fun q => firstAt_lt (l := L) (q := q) hjl
       have hts := twiceTo_succ L j
       rw [show L.getD j default = L[j] from by simp [hjl]] at hts
       obtain ⟨y, hy⟩ : ∃ y, L[j] = y := ⟨_, rfl⟩
       rw [hy] at hcl hts
       simp only [hy] at hrp hfl
       have HFL := hidE hfl
       have HRP := hidE hrp
       have HTS := hidE hts
       have HJL := hidE hjl
       clear hy hrp hfl hts
       obtain ⟨r, hr⟩ : ∃ r, ((L.take j).any fun y_1 => decide (y_1 = y)) = r := ⟨_, rfl⟩
       rw [hr] at HFL HTS
       clear hr
       go_wp2_with fail
       refine (HRP.out _).mono ?_
       rintro e w5 ⟨⟨q, rfl, hF⟩, rfl⟩
       have hqd := HFL.out q hF
       have hqd' : decide (q < j) = r := by rw [← hqd]; simp
       clear hF
       cases r with
       | true =>
         obtain rfl : (6 : Int) = Q := by
          rw [← HQ2.out]
          rw [if_pos (any_of_at (l := (Fld.mk st lm pr vr).names) (k := k) (p := fun l => twiceTo l l.length) HLT.out (by simp only [HGE.out]; exact twiceTo_mono (k := j + 1) HJL.out (by rw [HTS.out]; simp)))]
         go_wp2_with fail
         go_ret
         exact ⟨rfl, B4.out⟩
       | false =>
         have HA3 : Hid (twiceTo L (j + 1) = false) := hidE (by rw [HTS.out, HA2.out]; rfl)
         go_wp2_with fail
         go_roundw
         case rel => exact ⟨j + 1, HJL.out, by go_num, HA3, (by first | trivial | rfl)⟩
         case measure => have := HJL.out; simp [intOf]; omega
      ·obtain rfl : j = L.length := by omega
       have HA3 := hidE (take_any_succ (l := (Fld.mk st lm pr vr).names) (p := fun l => twiceTo l l.length) (k := k) HLT.out HA.out (by simp only [HGE.out]; exact HA2.out))
       go_wp2_with fail
       go_roundw
       case rel => first | exact ⟨k + 1, HLT.out, by go_num, HA3, HB4⟩ | ((repeat apply Exists.intro); exact ⟨⟨k + 1, HLT.out, by go_num, HA3, HB4⟩, rfl⟩)
       case measure => have := HLT.out; simp [intOf]; omega
    ·obtain rfl : k = 3 := by omega
     have hn := any_of_take (l := (Fld.mk st lm pr vr).names) (Nat.le_refl 3) HA.out
     have HQ3 : Hid ((Fld.mk st lm pr vr).chkB = Q) := hidE (by rw [← HQ2.out, hn]; rfl)
     clear hn HQ2 HA
     go_wp2_with fail
     clear hk c0 c1 c2 c3 HNL HNM HN
     go_loopw [10] (fun i wr => ∃ k : Nat, k ≤ st.length ∧ i = .int .i64 k ∧ Hid ((st.take k).any (fun s : Sta => !inR s.x 0 100000) = false) ∧ wr = w3) (fun i _ => st.length - (intOf i).toNat)
     case atStart => exact ⟨0, Nat.zero_le _, rfl, hidE rfl, rfl⟩
     case round =>
      obtain ⟨k, hk, rfl, HA, hw⟩ := hrel
      obtain rfl := hw
      obtain ⟨w3, rfl⟩ : ∃ x : World, x = wr := ⟨wr, rfl⟩
      have c0 : w3.cell? ⟨w.heap.size, 0, none⟩ = some (.slice aS st.length cS) := c_e X3.out rfl
      by_cases hlt : k < st.length
      ·obtain ⟨b, off, rfl, hbl, hcc⟩ := RecsAt.at H.out.st hlt
       have e1 := hcc 1 (by omega)
       rw [← B3.out.cell hbl] at e1
       obtain ⟨y, hy⟩ : ∃ y, st[k] = y := ⟨_, rfl⟩
       dsimp only at e1
       rw [hy] at e1
       simp only [Sta.cells, List.getElem?_cons_zero, List.getElem?_cons_succ] at e1
       have HLT := hidE hlt
       have HY := hidE hy
       clear hy hcc
       have hw := fun W => within3_any y.x 0 100000 W
       cases hi : inR y.x 0 100000 with
       | false =>
         rw [hi] at hw
         have HI := hidE hw
         obtain rfl : (1 : Int) = Q := by
          rw [← HQ3.out]; unfold Fld.chkB
          rw [if_pos (any_of_at (l := st) (p := fun s => !inR s.x 0 100000) HLT.out (by rw [HY.out, hi]; rfl))]
         clear hi hw
         go_wp2_with fail
         refine (HI.out _).mono ?_
         rintro e w5 ⟨rfl, rfl⟩
         go_wp2_with fail
         go_ret
         exact ⟨rfl, B3.out⟩
       | true =>
         rw [hi] at hw
         have HI := hidE hw
         have HA2 := hidE (take_any_succ (p := fun s : Sta => !inR s.x 0 100000) HLT.out HA.out (by rw [HY.out, hi]; rfl))
         clear hi hw
         go_wp2_with fail
         refine (HI.out _).mono ?_
         rintro e w5 ⟨rfl, rfl⟩
         go_wp2_with fail
         go_roundw
         case rel => first | exact ⟨k + 1, HLT.out, by go_num, HA2, (by first | trivial | rfl)⟩ | ((repeat apply Exists.intro); exact ⟨⟨k + 1, HLT.out, by go_num, HA2, (by first | trivial | rfl)⟩, rfl⟩)
         case measure => have := HLT.out; simp [intOf]; omega
      ·obtain rfl : k = st.length := by omega
       have hn := any_of_take (Nat.le_refl _) HA.out
       have HQ4 : Hid ((if pr.any (fun p => !parRange lm.length st.length p) then 1 else (Fld.mk st lm pr vr).chkC) = Q) := hidE (by have h3 := HQ3.out; unfold Fld.chkB at h3; dsimp only at h3; rw [hn, if_neg (by simp)] at h3; exact h3)
       clear hn HQ3 HA
       go_wp2_with fail
       clear c0 hk
       go_loopw [11] (fun i wr => ∃ k : Nat, k ≤ pr.length ∧ i = .int .i64 k ∧ Hid ((pr.take k).any (fun p : Par => !parRange lm.length st.length p) = false) ∧ Hid (Below w3.heap.size w3 wr)) (fun i _ => pr.length - (intOf i).toNat)
       case atStart => exact ⟨0, Nat.zero_le _, rfl, hidE rfl, hidE (Below.refl _ _)⟩
       case round =>
        obtain ⟨k, hk, rfl, HA, HB⟩ := hrel
        obtain ⟨w4, rfl⟩ : ∃ x : World, x = wr := ⟨wr, rfl⟩
        have B4 := hidE (B3.out.trans (HB.out.mono B3.out.size))
        have X4 := hidE (blk_below HB.out l3 X3.out)
        have l4 := lt_of_block X4.out
        have g0 : w4.cell? ⟨w.heap.size, 0, none⟩ = some (.slice aS st.length cS) := c_e X4.out rfl
        have g1 : w4.cell? ⟨w.heap.size, 1, none⟩ = some (.slice aL lm.length cL) := c_e X4.out rfl
        have g2 : w4.cell? ⟨w.heap.size, 2, none⟩ = some (.slice aP pr.length cP) := c_e X4.out rfl
        have g3 : w4.cell? ⟨w.heap.size, 3, none⟩ = some (.slice aV vr.length cV) := c_e X4.out rfl
        by_cases hlt : k < pr.length
        ·obtain ⟨b, off, rfl, hbl, hcc⟩ := RecsAt.at H.out.pr hlt
         have e0 := hcc 0 (by omega)
         have e1 := hcc 1 (by omega)
         have e2 := hcc 2 (by omega)
         have e3 := hcc 3 (by omega)
         rw [← B4.out.cell hbl, Nat.add_zero] at e0
         rw [← B4.out.cell hbl] at e1 e2 e3
         obtain ⟨y, hy⟩ : ∃ y, pr[k] = y := ⟨_, rfl⟩
         dsimp only at e0 e1 e2 e3
         rw [hy] at e0 e1 e2 e3
         simp only [Par.cells, List.getElem?_cons_zero, List.getElem?_cons_succ] at e0 e1 e2 e3
         have HLT := hidE hlt
         have HY := hidE hy
         clear hy hcc
         have HPR : Hid (parRange lm.length st.length y = (inR y.south 0 ((lm.length : Int) - 2) && inR y.wst 0 ((st.length : Int) - 1) && inR y.est 0 ((st.length : Int) - 1))) := hidE rfl
         have HBF := hidE (show Below w.heap.size w (w4.alloc (.cells #[.string y.name, .int .i64 y.south, .int .i64 y.wst, .int .i64 y.est] 53)) from B4.out.alloc B4.out.size _)
         have HBR := hidE (show Below w3.heap.size w3 (w4.alloc (.cells #[.string y.name, .int .i64 y.south, .int .i64 y.wst, .int .i64 y.est] 53)) from HB.out.alloc HB.out.size _)
         obtain ⟨ys, y0, y1, y2⟩ := y
         dsimp only at e0 e1 e2 e3 HPR HBF HBR
         have v1 : IntKind.i64.wrap ((lm.length : Int) - 2) = (lm.length : Int) - 2 := IntWalk.i64_in _ (by omega)
         have v2 : IntKind.i64.wrap ((st.length : Int) - 1) = (st.length : Int) - 1 := IntWalk.i64_in _ (by omega)
         have q1 := fun W => within3_any y0 0 ((lm.length : Int) - 2) W
         have q2 := fun W => within3_any y1 0 ((st.length : Int) - 1) W
         have q3 := fun W => within3_any y2 0 ((st.length : Int) - 1) W
         cases hi1 : inR y0 0 ((lm.length : Int) - 2) with
         | false =>
           rw [hi1] at q1
           have HI1 := hidE q1
           obtain rfl : (1 : Int) = Q := by
            rw [← HQ4.out, if_pos (any_of_at (l := pr) (p := fun p : Par => !parRange lm.length st.length p) HLT.out (by rw [HY.out, HPR.out, hi1]; rfl))]
           clear hi1 q1 q2 q3
           go_wp2_with fail
           refine (HI1.out _).mono ?_
           rintro e w6 ⟨rfl, rfl⟩
           go_wp2_with fail
           go_ret
           exact ⟨rfl, HBF.out⟩
         | true =>
           rw [hi1] at q1
           have HI1 := hidE q1
           cases hi2 : inR y1 0 ((st.length : Int) - 1) with
           | false =>
             rw [hi2] at q2
             have HI2 := hidE q2
             obtain rfl : (1 : Int) = Q := by
              rw [← HQ4.out, if_pos (any_of_at (l := pr) (p := fun p : Par => !parRange lm.length st.length p) HLT.out (by rw [HY.out, HPR.out, hi1, hi2]; rfl))]
             clear hi1 hi2 q1 q2 q3
             go_wp2_with fail
             refine (HI1.out _).mono ?_
             rintro e w6 ⟨rfl, rfl⟩
             go_wp2_with fail
             refine (HI2.out _).mono ?_
             rintro e w6 ⟨rfl, rfl⟩
             go_wp2_with fail
             go_ret
             exact ⟨rfl, HBF.out⟩
           | true =>
             rw [hi2] at q2
             have HI2 := hidE q2
             cases hi3 : inR y2 0 ((st.length : Int) - 1) with
             | false =>
               rw [hi3] at q3
               have HI3 := hidE q3
               obtain rfl : (1 : Int) = Q := by
                rw [← HQ4.out, if_pos (any_of_at (l := pr) (p := fun p : Par => !parRange lm.length st.length p) HLT.out (by rw [HY.out, HPR.out, hi1, hi2, hi3]; rfl))]
               clear hi1 hi2 hi3 q1 q2 q3
               go_wp2_with fail
               refine (HI1.out _).mono ?_
               rintro e w6 ⟨rfl, rfl⟩
               go_wp2_with fail
               refine (HI2.out _).mono ?_
               rintro e w6 ⟨rfl, rfl⟩
               go_wp2_with fail
               refine (HI3.out _).mono ?_
               rintro e w6 ⟨rfl, rfl⟩
               go_wp2_with fail
               go_ret
               exact ⟨rfl, HBF.out⟩
             | true =>
               rw [hi3] at q3
               have HI3 := hidE q3
               have HA2 := hidE (take_any_succ (p := fun p : Par => !parRange lm.length st.length p) HLT.out HA.out (by rw [HY.out, HPR.out, hi1, hi2, hi3]; rfl))
               clear hi1 hi2 hi3 q1 q2 q3
               go_wp2_with fail
               refine (HI1.out _).mono ?_
               rintro e w6 ⟨rfl, rfl⟩
               go_wp2_with fail
               refine (HI2.out _).mono ?_
               rintro e w6 ⟨rfl, rfl⟩
               go_wp2_with fail
               refine (HI3.out _).mono ?_
               rintro e w6 ⟨rfl, rfl⟩
               go_wp2_with fail
               go_roundw
               case rel => first | exact ⟨k + 1, HLT.out, by go_num, HA2, HBR⟩ | ((repeat apply Exists.intro); exact ⟨⟨k + 1, HLT.out, by go_num, HA2, HBR⟩, rfl⟩)
               case measure => have := HLT.out; simp [intOf]; omega
        ·obtain rfl : k = pr.length := by omega
         have hn := any_of_take (Nat.le_refl _) HA.out
         have hsm := fun p (hp : p ∈ pr) => parRange_small (nL := lm.length) (nS := st.length) (p := p) (by have := hn; rw [List.any_eq_false] at this; simpa using this p hp) (by omega) (by omega)
         have HO := hidE (HO0.out w4 B4.out (by omega) (by omega) hsm)
         have HQ5 : Hid ((if (Fld.mk st lm pr vr).ordB = false then 30 else 0) = Q) := hidE (by have h3 := HQ4.out; rw [hn, if_neg (by simp), Fld.ordB_eq] at h3; exact h3)
         clear hn hsm HO0 HQ4
         obtain ⟨r, hr⟩ : ∃ r, (Fld.mk st lm pr vr).ordB = r := ⟨_, rfl⟩
         rw [hr] at HO HQ5
         clear hr
         cases r with
         | false =>
           obtain rfl : (30 : Int) = Q := by rw [← HQ5.out]; rfl
           go_wp2_with fail
           refine HO.out.mono ?_
           rintro e w6 ⟨rfl, hb6⟩
           have B6 := hidE (B4.out.trans (hb6.mono B4.out.size))
           clear hb6
           go_wp2_with fail
           go_ret
           exact ⟨rfl, B6.out⟩
         | true =>
           obtain rfl : (0 : Int) = Q := by rw [← HQ5.out]; rfl
           go_wp2_with fail
           refine HO.out.mono ?_
           rintro e w6 ⟨rfl, hb6⟩
           have B6 := hidE (B4.out.trans (hb6.mono B4.out.size))
           clear hb6
           go_wp2_with fail
           go_ret
           exact ⟨rfl, B6.out⟩
end Go.Proofs.YthjmkmjojlfejaaGreat
namespace Go.Proofs.YthjmkmjojlfejaaGreat
theorem list_ext_getD {a b : List Int} (hl : a.length = b.length) (h : ∀ j, a.getD j 0 = b.getD j 0) : a = b := by
 refine List.ext_getElem hl fun j h1 h2 => ?_
 have := h j
 rwa [List.getD_eq_getElem?_getD, List.getElem?_eq_getElem h1, List.getD_eq_getElem?_getD, List.getElem?_eq_getElem h2] at this
theorem addAt_comm (l : List Int) (p q : Nat) (d e : Int) : addAt (addAt l p d) q e = addAt (addAt l q e) p d := by
 refine list_ext_getD (by simp only [addAt_len]) fun j => ?_
 simp only [addAt_get, addAt_len]
 omega
def w5Half (l : List Int) (so no : Nat) (run : Int) : List Int := addAt (addAt l so (-run)) no run
theorem w5_eq (l : List Int) (s : Str) : w5Half (w5Half l s.so.toNat s.no.toNat s.run) s.fso.toNat s.fno.toNat s.run = wStep l s := by
 unfold w5Half wStep
 rw [addAt_comm (addAt l s.so.toNat (-s.run)) s.no.toNat s.fso.toNat]
end Go.Proofs.YthjmkmjojlfejaaGreat
namespace Go.Proofs.YthjmkmjojlfejaaGreat
open Go Go.RowKit Go.Shelf
theorem rpoints_any (w : World) (x : FV) (F : Fld) (hl : F.lms.length ≤ 1000) (hs : F.sts.length ≤ 1000) :
 Calls Tryz.prog 120 #[x.val F] w fun e w' => e = .returned (.int .i64 F.points) ∧ Below w.heap.size w w' := by
 obtain ⟨h1, h2⟩ := points_bd hl hs
 unfold Fld.points FV.val FV.arr
 obtain ⟨st, lm, pr, vr⟩ := F
 dsimp only at *
 go_enter Tryz.func120, Tryz.ntmps120
 go_wp2_with fail
 go_ret
 exact ⟨rfl, by go_grown⟩
theorem rpoint_any (w : World) (x : FV) (F : Fld) (l s : Int) (hs : F.sts.length ≤ 1000) (hl0 : 0 ≤ l) (hl1 : l ≤ 1000) (h0 : 0 ≤ s) (h1 : s ≤ 1000) :
 Calls Tryz.prog 169 #[x.val F, .int .i64 l, .int .i64 s] w fun e w' => e = .returned (.int .i64 (ptP F l s)) ∧ Below w.heap.size w w' := by
 have hm := mul_bd (A := 1000) (B := 1000) (a := l) (b := (F.sts.length : Int)) (by omega) (by omega) (by omega) (by omega)
 have m0 : 0 ≤ l * (F.sts.length : Int) := Int.mul_nonneg hl0 (by omega)
 have m1 : l * (F.sts.length : Int) ≤ 1000000 := by omega
 clear hm
 unfold ptP FV.val FV.arr
 obtain ⟨st, lm, pr, vr⟩ := F
 dsimp only at *
 go_enter Tryz.func169, Tryz.ntmps169
 go_wp2_with fail
 go_ret
 exact ⟨rfl, by go_grown⟩
def w5At (F : Fld) (p : Par) (k : Nat) : Nat → List Int
 | 0 => wtsTo F p k
 | 1 => w5Half (wtsTo F p k) (stripP F p (p.wst.toNat + k)).so.toNat (stripP F p (p.wst.toNat + k)).no.toNat (stripP F p (p.wst.toNat + k)).run
 | _ + 2 => wtsTo F p (k + 1)
def runAt (F : Fld) (p : Par) (k : Nat) : Int := stX F (p.wst.toNat + k + 1) - stX F (p.wst.toNat + k)
theorem w5At_step {F : Fld} {p : Par} (hp : p.inside F) {k : Nat} (hk : p.wst.toNat + k + 1 < F.sts.length) {j : Nat} (hj : j ≤ 1) :
 ∃ so no : Nat, ptP F p.south ((p.wst.toNat + k + j : Nat) : Int) = so ∧ ptP F (p.south + 1) ((p.wst.toNat + k + j : Nat) : Int) = no ∧ (so : Int) < F.points ∧ (no : Int) < F.points ∧ w5At F p k (j + 1) = addAt (addAt (w5At F p k j) so (-runAt F p k)) no (runAt F p k) := by
 have hpt := strip_pts hp hk
 dsimp only at hpt
 obtain ⟨⟨a1, a2⟩, ⟨b1, b2⟩, ⟨c1, c2⟩, d1, d2⟩ := hpt
 have hj2 : j = 0 ∨ j = 1 := by omega
 rcases hj2 with rfl | rfl
 ·exact ⟨_, _, (Int.toNat_of_nonneg a1).symm, (Int.toNat_of_nonneg b1).symm, by rw [Int.toNat_of_nonneg a1]; exact a2, by rw [Int.toNat_of_nonneg b1]; exact b2, rfl⟩
 ·refine ⟨_, _, (Int.toNat_of_nonneg c1).symm, (Int.toNat_of_nonneg d1).symm, by rw [Int.toNat_of_nonneg c1]; exact c2, by rw [Int.toNat_of_nonneg d1]; exact d2, ?_⟩
  show wtsTo F p (k + 1) = _
  rw [wtsTo_succ, ← w5_eq]
  rfl
theorem w5Half_len (l : List Int) (a b : Nat) (r : Int) : (w5Half l a b r).length = l.length := by simp [w5Half, addAt_len]
theorem w5At_len (F : Fld) (p : Par) (k j : Nat) : (w5At F p k j).length = F.points.toNat := by
 match j with
 | 0 => exact wtsTo_len _ _ _
 | 1 => exact (w5Half_len _ _ _ _).trans (wtsTo_len _ _ _)
 | _ + 2 => exact wtsTo_len _ _ _
theorem runAt_bd {F : Fld} (h : F.check = 0) {p : Par} {k : Nat} (hk : p.wst.toNat + k + 1 < F.sts.length) : 0 ≤ runAt F p k ∧ runAt F p k ≤ 100000 := by
 have h1 := check0_x h (k := p.wst.toNat + k) (by omega)
 have h2 := check0_x h hk
 have h3 := check0_up h hk
 unfold runAt; omega
theorem w5At_bd {F : Fld} (h : F.check = 0) {p : Par} (hp : p.inside F) {k : Nat} (hk : p.wst.toNat + k + 1 < F.sts.length) {j : Nat} (hj : j ≤ 1) (i : Nat) : -600000 ≤ (w5At F p k j).getD i 0 ∧ (w5At F p k j).getD i 0 ≤ 600000 := by
 have h0 : ∀ i : Nat, -400000 ≤ (wtsTo F p k).getD i 0 ∧ (wtsTo F p k).getD i 0 ≤ 400000 := fun i => by
  have h1 := wtsTo_bd h hp k (by omega) i
  have h2 := check0_x h (k := p.wst.toNat + k) (by omega)
  have h3 := check0_x h (k := p.wst.toNat) (by omega)
  omega
 have hr : 0 ≤ (stripP F p (p.wst.toNat + k)).run ∧ (stripP F p (p.wst.toNat + k)).run ≤ 100000 := runAt_bd h hk
 have hj2 : j = 0 ∨ j = 1 := by omega
 rcases hj2 with rfl | rfl
 ·have := h0 i
  show -600000 ≤ (wtsTo F p k).getD i 0 ∧ (wtsTo F p k).getD i 0 ≤ 600000
  omega
 ·exact addAt_bd (c := 500000) (r := 100000) (addAt_bd (c := 400000) (r := 100000) h0 (by omega) (by omega) _) (by omega) (by omega) _ i
set_option maxRecDepth 100000 in
set_option maxHeartbeats 8000000 in
theorem rweights_any (w : World) (x : FV) (F : Fld) (i : Nat) (hz : F.check = 0) (hi : i < F.prs.length) (h : FldAt w x F) :
 Calls Tryz.prog 117 #[x.val F, .int .i64 (i : Int)] w fun e w' => ∃ g, e = .returned (.slice (some ⟨g, 0, none⟩) F.points.toNat F.points.toNat) ∧ w'.heap[g]? = some (.cells (rowA (weightsOf F F.prs[i])) 3 (0,0)) ∧ w.heap.size ≤ g ∧ Below w.heap.size w w' := by
 have hin := check0_inside hz (List.getElem_mem hi)
 obtain ⟨⟨ls1, ls2⟩, ⟨ll1, ll2⟩, lp⟩ := check0_len hz
 have hpn := points_nat hz
 obtain ⟨N, hN⟩ : ∃ N : Nat, F.points = N := ⟨F.points.toNat, by omega⟩
 have hN1 : N ≤ 121 := by omega
 have HPT := hidE (fun W => show Calls Tryz.prog 120 #[x.val F] W fun e w' => e = .returned (.int .i64 (N : Int)) ∧ Below W.heap.size W w' by rw [← hN]; exact rpoints_any W x F (by omega) (by omega))
 obtain ⟨bP, oP, haP, hbP, hcP⟩ := RecsAt.at h.pr hi
 obtain ⟨p, hp⟩ : ∃ p, F.prs[i] = p := ⟨_, rfl⟩
 rw [hp] at hin hcP ⊢
 obtain ⟨m, hm⟩ : ∃ m : Nat, p.wst = m := ⟨p.wst.toNat, by obtain ⟨_, _, _, _, _⟩ := hin; omega⟩
 have hmt : p.wst.toNat = m := by omega
 obtain ⟨E, hE0⟩ : ∃ E : Nat, p.est = (E : Int) := ⟨p.est.toNat, by obtain ⟨_, _, _, _, _⟩ := hin; omega⟩
 obtain ⟨K, hK⟩ : ∃ K : Nat, E = m + K := ⟨E - m, by obtain ⟨_, _, _, _, _⟩ := hin; omega⟩
 have hKn : m + K < F.sts.length := by obtain ⟨_, _, _, _, _⟩ := hin; omega
 have hps : 0 ≤ p.south ∧ p.south ≤ 100 := by obtain ⟨_, _, _, _, _⟩ := hin; omega
 obtain ⟨A, hA⟩ : ∃ A, w5At F p = A := ⟨_, rfl⟩
 obtain ⟨R, hR⟩ : ∃ R, runAt F p = R := ⟨_, rfl⟩
 have HSTEP := hidE (fun (k : Nat) (hk : m + k + 1 < F.sts.length) (j : Nat) (hj : j ≤ 1) => show ∃ so no : Nat, ptP F p.south ((m + k + j : Nat) : Int) = so ∧ ptP F (p.south + 1) ((m + k + j : Nat) : Int) = no ∧ so < N ∧ no < N ∧ A k (j + 1) = addAt (addAt (A k j) so (-R k)) no (R k) by
  obtain ⟨so, no, h1, h2, h3, h4, h5⟩ := w5At_step hin (k := k) (by omega) hj
  rw [hmt] at h1 h2
  rw [hA, hR] at h5
  exact ⟨so, no, h1, h2, by omega, by omega, h5⟩)
 have HBD := hidE (fun (k : Nat) (hk : m + k + 1 < F.sts.length) (j : Nat) (hj : j ≤ 1) (q : Nat) => show -600000 ≤ (A k j).getD q 0 ∧ (A k j).getD q 0 ≤ 600000 by rw [← hA]; exact w5At_bd hz hin (by omega) hj q)
 have HRB := hidE (fun (k : Nat) (hk : m + k + 1 < F.sts.length) => show 0 ≤ R k ∧ R k ≤ 100000 by rw [← hR]; exact runAt_bd hz (by omega))
 have HRX := hidE (fun (k : Nat) (h2 : m + k + 1 < F.sts.length) => show R k = F.sts[m + k + 1].x - (F.sts[m + k]'(Nat.lt_of_succ_lt h2)).x by
  rw [← hR]; unfold runAt; rw [hmt, stX_get h2, stX_get (show m + k < F.sts.length by omega)])
 have HXB := hidE (fun (k : Nat) (hk : k < F.sts.length) => show 0 ≤ F.sts[k].x ∧ F.sts[k].x ≤ 100000 by rw [← stX_get hk]; exact check0_x hz hk)
 have HLEN := hidE (fun (k j : Nat) => show (A k j).length = N by rw [← hA, w5At_len, hN]; rfl)
 have HA2 := hidE (fun (k : Nat) => show A k 2 = A (k + 1) 0 by rw [← hA]; rfl)
 have HA0 : Hid (A 0 0 = List.replicate N 0) := hidE (by rw [← hA]; show List.replicate F.points.toNat 0 = _; rw [hN]; rfl)
 have HEND : Hid (weightsOf F p = A K 0) := hidE (by rw [weightsOf_eq, ← hA]; show _ = wtsTo F p K; rw [show (p.est - p.wst).toNat = K by omega])
 have HRP := hidE (fun (W : World) (l : Int) (s : Nat) (h1 : 0 ≤ l) (h2 : l ≤ 1000) (h3 : s ≤ 1000) => rpoint_any W x F l s (by omega) h1 h2 (by omega) (by omega))
 have hNt : F.points.toNat = N := by rw [hN]; rfl
 rw [hNt]
 have HST := hidE h.st
 obtain ⟨WO, hWO⟩ : ∃ WO, weightsOf F p = WO := ⟨_, rfl⟩
 rw [hWO] at HEND ⊢
 obtain ⟨pn, ps, pw, pe⟩ := p
 dsimp only at hm hE0 hps HSTEP
 subst hm hE0
 have HK := hidE hK
 clear hK
 clear hA hR hWO hp hpn hz hin hmt hNt hN h
 have hmk3 := fun W => run_make_row' (P := Tryz.prog) 25 3 (.int .i64 0) 8 Tryz.underlying25 Tryz.info3' rfl .i64 .i64 N (by omega) (by omega) W
 obtain ⟨aS, cS, aL, cL, aP, cP, aV, cV⟩ := x
 obtain ⟨st, lm, pr, vr⟩ := F
 unfold FV.val FV.arr at *
 dsimp only at *
 subst haP
 have c0 := hcP 0 (by omega)
 have c1 := hcP 1 (by omega)
 have c2 := hcP 2 (by omega)
 have c3 := hcP 3 (by omega)
 simp only [Par.cells, List.getElem?_cons_zero, List.getElem?_cons_succ, Nat.add_zero] at c0 c1 c2 c3
 obtain ⟨w0, hw0⟩ : ∃ W, W = (w.alloc (.cells #[.slice aS st.length cS, .slice aL lm.length cL, .slice (some ⟨bP, oP, none⟩) pr.length cP, .slice aV vr.length cV] 46)).alloc (.cells #[.string pn, .int .i64 ps, .int .i64 (m : Int), .int .i64 (E : Int)] 53) := ⟨_, rfl⟩
 have B0 := hidE (show Below w.heap.size w w0 by rw [hw0]; exact ((Below.refl _ _).alloc (Nat.le_refl _) _).alloc (by simp) _)
 have X0 := hidE (show w0.heap[w.heap.size]? = some (.cells #[.slice aS st.length cS, .slice aL lm.length cL, .slice (some ⟨bP, oP, none⟩) pr.length cP, .slice aV vr.length cV] 46 (0,0)) by rw [hw0]; exact heap_alloc2_old _ _ _)
 have P0 := hidE (show w0.heap[w.heap.size + 1]? = some (.cells #[.string pn, .int .i64 ps, .int .i64 (m : Int), .int .i64 (E : Int)] 53 (0,0)) by rw [hw0, heap_alloc2_new])
 have l0 : w.heap.size + 1 < w0.heap.size := lt_of_block P0.out
 have hsz0 : w.heap.size < w0.heap.size := by omega
 have f0 : w0.cell? ⟨w.heap.size, 0, none⟩ = some (.slice aS st.length cS) := c_e X0.out rfl
 have f1 : w0.cell? ⟨w.heap.size, 1, none⟩ = some (.slice aL lm.length cL) := c_e X0.out rfl
 have f2 : w0.cell? ⟨w.heap.size, 2, none⟩ = some (.slice (some ⟨bP, oP, none⟩) pr.length cP) := c_e X0.out rfl
 have f3 : w0.cell? ⟨w.heap.size, 3, none⟩ = some (.slice aV vr.length cV) := c_e X0.out rfl
 clear hcP
 go_enter Tryz.func117, Tryz.ntmps117
 go_upto_region 2 with fail
 rw [← hw0]
 clear hw0 c0 c1 c2 c3
 go_wp2_with fail
 refine (HPT.out _).mono ?_
 rintro e w1 ⟨rfl, hb1⟩
 have B1 := hidE (B0.out.trans (hb1.mono B0.out.size))
 have X1 := hidE (blk_below hb1 hsz0 X0.out)
 have P1 := hidE (blk_below hb1 l0 P0.out)
 have l1 := lt_of_block X1.out
 have lp1 := lt_of_block P1.out
 clear hb1 f0 f1 f2 f3 l0 hsz0
 go_upto_region 3 with fail
 obtain ⟨w2, hw2⟩ : ∃ W, W = w1.alloc (.cells (madeCells #[.int .i64 0] N) 3) := ⟨_, rfl⟩
 rw [← hw2]
 have B2 := hidE (show Below w.heap.size w w2 by rw [hw2]; exact B1.out.alloc B1.out.size _)
 have X2 := hidE (show w2.heap[w.heap.size]? = some (.cells #[.slice aS st.length cS, .slice aL lm.length cL, .slice (some ⟨bP, oP, none⟩) pr.length cP, .slice aV vr.length cV] 46 (0,0)) by rw [hw2]; exact (Below.heap_alloc _ _ _ l1).trans X1.out)
 have P2 := hidE (show w2.heap[w.heap.size + 1]? = some (.cells #[.string pn, .int .i64 ps, .int .i64 (m : Int), .int .i64 (E : Int)] 53 (0,0)) by rw [hw2]; exact (Below.heap_alloc _ _ _ lp1).trans P1.out)
 have G2 := hidE (show w2.heap[w1.heap.size]? = some (.cells (rowA (A 0 0)) 3 (0,0)) by rw [hw2, heap_alloc_new, madeInts, HA0.out])
 obtain ⟨g, hg⟩ : ∃ g, w1.heap.size = g := ⟨_, rfl⟩
 rw [hg] at G2 l1 lp1 ⊢
 have HGB : Hid (w.heap.size + 1 < g) := hidE (by omega)
 clear hw2 hg hmk3 B1 X1 P1 X0 P0 HA0 HPT
 have k2 : w2.cell? ⟨w.heap.size + 1, 2, none⟩ = some (.int .i64 (m : Int)) := c_e P2.out rfl
 go_wp2_with fail
 go_loopw [7] (fun i wr => ∃ k : Nat, k ≤ K ∧ i = .int .i64 ((m + k : Nat) : Int) ∧ Hid (wr.heap[w.heap.size]? = some (.cells #[.slice aS st.length cS, .slice aL lm.length cL, .slice (some ⟨bP, oP, none⟩) pr.length cP, .slice aV vr.length cV] 46 (0,0))) ∧ Hid (wr.heap[w.heap.size + 1]? = some (.cells #[.string pn, .int .i64 ps, .int .i64 (m : Int), .int .i64 (E : Int)] 53 (0,0))) ∧ Hid (wr.heap[g]? = some (.cells (rowA (A k 0)) 3 (0,0))) ∧ Hid (Below w.heap.size w wr)) (fun i _ => E - (intOf i).toNat)
 case atStart => exact ⟨0, Nat.zero_le _, rfl, X2, P2, G2, B2⟩
 case round =>
  obtain ⟨k, hk, rfl, HX, HP, HG, HB⟩ := hrel
  obtain ⟨wx, rfl⟩ : ∃ x : World, x = wr := ⟨wr, rfl⟩
  have k3 : wx.cell? ⟨w.heap.size + 1, 3, none⟩ = some (.int .i64 (E : Int)) := c_e HP.out rfl
  obtain ⟨s, hs⟩ : ∃ s : Nat, m + k = s := ⟨_, rfl⟩
  have hE := HK.out
  by_cases hlt : k < K
  ·have hsE : decide ((s : Int) < (E : Int)) = true := by simp; omega
   have hsE' : decide (s < E) = true := by simp; omega
   have h2 : m + k + 1 < st.length := by omega
   obtain ⟨s1, hs1⟩ : ∃ s1 : Nat, s1 = s + 1 := ⟨_, rfl⟩
   have hs1i : (s : Int) + 1 = (s1 : Int) := by omega
   have hs1w : IntKind.i64.wrap (s1 : Int) = (s1 : Int) := IntWalk.i64_in _ (by omega)
   have hsl : s < st.length := by omega
   have hs1l : s1 < st.length := by omega
   obtain ⟨bS, oS, rfl, hbS, hcS⟩ := RecsAt.at HST.out hsl
   obtain ⟨bS', oS', eS', _, hcS'⟩ := RecsAt.at HST.out hs1l
   cases eS'
   have x0 := hcS 1 (by omega)
   have x1 := hcS' 1 (by omega)
   rw [← HB.out.cell hbS] at x0 x1
   simp only [Sta.cells, List.getElem?_cons_zero, List.getElem?_cons_succ] at x0 x1
   have hR : R k = st[s1].x - st[s].x := by subst hs1; subst hs; exact HRX.out k h2
   have hu0 := HXB.out s hsl
   have hu1 := HXB.out s1 hs1l
   obtain ⟨u0, hu0e⟩ : ∃ u, st[s].x = u := ⟨_, rfl⟩
   obtain ⟨u1, hu1e⟩ : ∃ u, st[s1].x = u := ⟨_, rfl⟩
   rw [hu0e] at x0 hR hu0
   rw [hu1e] at x1 hR hu1
   obtain ⟨r, hr⟩ : ∃ r, u1 - u0 = r := ⟨_, rfl⟩
   rw [hr] at hR
   have HRr := hidE hR
   have hrb := HRB.out k h2
   rw [hR] at hrb
   have hrw : IntKind.i64.wrap r = r := IntWalk.i64_in _ (by omega)
   have q0 : wx.cell? ⟨w.heap.size, 0, none⟩ = some (.slice (some ⟨bS, oS, none⟩) st.length cS) := c_e HX.out rfl
   have HS1 := hidE hs1
   have HS := hidE hs
   have H2 := hidE h2
   have HLT := hidE hlt
   rw [hs]
   clear hu0e hu1e hcS hcS' hR hs1 hs h2 hE
   go_wp2_with fail
   go_quiet (fail)
   go_wp2_with fail
   clear x0 x1 q0 k3 hsE hsE'
   go_loopw [9] (fun i wr => ∃ j u : Nat, j ≤ 2 ∧ Hid (s + j = u) ∧ i = .int .i64 (u : Int) ∧ Hid (wr.heap[w.heap.size]? = some (.cells #[.slice (some ⟨bS, oS, none⟩) st.length cS, .slice aL lm.length cL, .slice (some ⟨bP, oP, none⟩) pr.length cP, .slice aV vr.length cV] 46 (0,0))) ∧ Hid (wr.heap[w.heap.size + 1]? = some (.cells #[.string pn, .int .i64 ps, .int .i64 (m : Int), .int .i64 (E : Int)] 53 (0,0))) ∧ Hid (wr.heap[g]? = some (.cells (rowA (A k j)) 3 (0,0))) ∧ Hid (Below w.heap.size w wr)) (fun i _ => s + 2 - (intOf i).toNat)
   case atStart => exact ⟨0, s, by omega, hidE rfl, rfl, hidE HX.out, hidE HP.out, hidE HG.out, hidE (HB.out.trans (below_drewN' _ _))⟩
   case round =>
    obtain ⟨j, u, hj, HU, rfl, HX3, HP3, HG3, HB3⟩ := hrel
    obtain ⟨w3, rfl⟩ : ∃ x : World, x = wr := ⟨wr, rfl⟩
    by_cases hj2 : j < 2
    ·have hus : u ≤ s1 := by have := HU.out; have := HS1.out; omega
     have du : decide ((u : Int) ≤ (s1 : Int)) = true := by simp; omega
     have du' : decide (u ≤ s1) = true := by simp; omega
     obtain ⟨so, no, e1, e2, hso, hno, hst⟩ := HSTEP.out k H2.out j (by omega)
     have huu : m + k + j = u := by have := HU.out; have := HS.out; omega
     rw [huu] at e1 e2
     have hc1 := fun W => HRP.out W ps u (by omega) (by omega) (by omega)
     have hc2 := fun W => HRP.out W (ps + 1) u (by omega) (by omega) (by omega)
     rw [e1] at hc1
     rw [e2] at hc2
     have HC1 := hidE hc1
     have HC2 := hidE hc2
     rw [HRr.out] at hst
     have HSN := hidE hst
     have HJ := hidE hj2
     have hpw : IntKind.i64.wrap (ps + 1) = ps + 1 := IntWalk.i64_in _ (by omega)
     have q0 : w3.cell? ⟨w.heap.size, 0, none⟩ = some (.slice (some ⟨bS, oS, none⟩) st.length cS) := c_e HX3.out rfl
     have q1 : w3.cell? ⟨w.heap.size, 1, none⟩ = some (.slice aL lm.length cL) := c_e HX3.out rfl
     have q2 : w3.cell? ⟨w.heap.size, 2, none⟩ = some (.slice (some ⟨bP, oP, none⟩) pr.length cP) := c_e HX3.out rfl
     have q3 : w3.cell? ⟨w.heap.size, 3, none⟩ = some (.slice aV vr.length cV) := c_e HX3.out rfl
     have p1 : w3.cell? ⟨w.heap.size + 1, 1, none⟩ = some (.int .i64 ps) := c_e HP3.out rfl
     have lx := lt_of_block HX3.out
     have lp := lt_of_block HP3.out
     have lg := lt_of_block HG3.out
     clear e1 e2 hc1 hc2 hst huu hj2
     go_wp2_with fail
     refine (HC1.out _).mono ?_
     rintro e w4 ⟨rfl, hb4⟩
     have HX4 := hidE (blk_below hb4 lx HX3.out)
     have HP4 := hidE (blk_below hb4 lp HP3.out)
     have HG4 := hidE (blk_below hb4 lg HG3.out)
     have HB4 := hidE (HB3.out.trans (hb4.mono HB3.out.size))
     have lx4 := lt_of_block HX4.out
     have lp4 := lt_of_block HP4.out
     have lg4 := lt_of_block HG4.out
     clear hb4 q0 q1 q2 q3 p1 lx lp lg
     have q0 : w4.cell? ⟨w.heap.size, 0, none⟩ = some (.slice (some ⟨bS, oS, none⟩) st.length cS) := c_e HX4.out rfl
     have q1 : w4.cell? ⟨w.heap.size, 1, none⟩ = some (.slice aL lm.length cL) := c_e HX4.out rfl
     have q2 : w4.cell? ⟨w.heap.size, 2, none⟩ = some (.slice (some ⟨bP, oP, none⟩) pr.length cP) := c_e HX4.out rfl
     have q3 : w4.cell? ⟨w.heap.size, 3, none⟩ = some (.slice aV vr.length cV) := c_e HX4.out rfl
     have p1 : w4.cell? ⟨w.heap.size + 1, 1, none⟩ = some (.int .i64 ps) := c_e HP4.out rfl
     go_wp2_with fail
     refine (HC2.out _).mono ?_
     rintro e w5 ⟨rfl, hb5⟩
     have HX5 := hidE (blk_below hb5 lx4 HX4.out)
     have HP5 := hidE (blk_below hb5 lp4 HP4.out)
     have HG5 := hidE (blk_below hb5 lg4 HG4.out)
     have HB5 := hidE (HB4.out.trans (hb5.mono HB4.out.size))
     clear hb5 q0 q1 q2 q3 p1 lx4 lp4 lg4
     have hv := HBD.out k H2.out j (by have := HJ.out; omega) so
     obtain ⟨L, hL⟩ : ∃ L, A k j = L := ⟨_, rfl⟩
     have hll := HLEN.out k j
     rw [hL] at HG5 hv hll HSN
     obtain ⟨v1, hv1⟩ : ∃ v, L.getD so 0 = v := ⟨_, rfl⟩
     rw [hv1] at hv
     have vw : IntKind.i64.wrap (v1 - r) = v1 - r := IntWalk.i64_in _ (by omega)
     have z1 : w5.cell? ⟨g, so, none⟩ = some (.int .i64 v1) := by rw [cell_of_row _ _ _ _ _ _ HG5.out, rowA_get (by omega), hv1]
     have zf : w5.frozen? ⟨g, so, none⟩ = false := frozen_of_row _ _ _ _ _ HG5.out
     have HV1 := hidE hv1
     have HLL := hidE hll
     have hv2 : -700000 ≤ (addAt L so (-r)).getD no 0 ∧ (addAt L so (-r)).getD no 0 ≤ 700000 := addAt_bd (c := 600000) (r := 100000) (by rw [← hL]; exact HBD.out k H2.out j (by have := HJ.out; omega)) (by omega) (by omega) so no
     have HL := hidE hL
     clear hL hv1 hll
     go_upto_region 13 with fail
     obtain ⟨Y, hY⟩ : ∃ Y, Y = w5.setCell ⟨g, so, none⟩ (.int .i64 (v1 - r)) := ⟨_, rfl⟩
     rw [← hY]
     have HXY := hidE (show Y.heap[w.heap.size]? = some (.cells #[.slice (some ⟨bS, oS, none⟩) st.length cS, .slice aL lm.length cL, .slice (some ⟨bP, oP, none⟩) pr.length cP, .slice aV vr.length cV] 46 (0,0)) by rw [hY]; exact (heap_setCell_other _ _ _ _ (by have := HGB.out; simp; omega)).trans HX5.out)
     have HPY := hidE (show Y.heap[w.heap.size + 1]? = some (.cells #[.string pn, .int .i64 ps, .int .i64 (m : Int), .int .i64 (E : Int)] 53 (0,0)) by rw [hY]; exact (heap_setCell_other _ _ _ _ (by have := HGB.out; simp; omega)).trans HP5.out)
     have HGY := hidE (show Y.heap[g]? = some (.cells (rowA (addAt L so (-r))) 3 (0,0)) by rw [hY]; exact (heap_setCell_same _ _ _ _ _ _ HG5.out).trans (by rw [rowA_set]; unfold addAt; rw [HV1.out, Int.sub_eq_add_neg]))
     have HBY := hidE (show Below w.heap.size w Y by rw [hY]; exact HB5.out.setCell (by have := HGB.out; simp; omega) _)
     clear hY z1 zf vw
     obtain ⟨v2, hv2e⟩ : ∃ v, (addAt L so (-r)).getD no 0 = v := ⟨_, rfl⟩
     rw [hv2e] at hv2
     have vw2 : IntKind.i64.wrap (v2 + r) = v2 + r := IntWalk.i64_in _ (by omega)
     have z2 : Y.cell? ⟨g, no, none⟩ = some (.int .i64 v2) := by rw [cell_of_row _ _ _ _ _ _ HGY.out, rowA_get (by rw [addAt_len]; have := HLL.out; omega), hv2e]
     have zf2 : Y.frozen? ⟨g, no, none⟩ = false := frozen_of_row _ _ _ _ _ HGY.out
     have HV2 := hidE hv2e
     clear hv2e
     have HXZ := hidE (show (Y.setCell ⟨g, no, none⟩ (.int .i64 (v2 + r))).heap[w.heap.size]? = some (.cells #[.slice (some ⟨bS, oS, none⟩) st.length cS, .slice aL lm.length cL, .slice (some ⟨bP, oP, none⟩) pr.length cP, .slice aV vr.length cV] 46 (0,0)) from (heap_setCell_other _ _ _ _ (by have := HGB.out; simp; omega)).trans HXY.out)
     have HPZ := hidE (show (Y.setCell ⟨g, no, none⟩ (.int .i64 (v2 + r))).heap[w.heap.size + 1]? = some (.cells #[.string pn, .int .i64 ps, .int .i64 (m : Int), .int .i64 (E : Int)] 53 (0,0)) from (heap_setCell_other _ _ _ _ (by have := HGB.out; simp; omega)).trans HPY.out)
     have HGZ := hidE (show (Y.setCell ⟨g, no, none⟩ (.int .i64 (v2 + r))).heap[g]? = some (.cells (rowA (A k (j + 1))) 3 (0,0)) from (heap_setCell_same _ _ _ _ _ _ HGY.out).trans (by rw [rowA_set, HSN.out]; conv => rhs; unfold addAt; rw [show L.set so (L.getD so 0 + -r) = addAt L so (-r) from rfl, HV2.out]))
     have HBZ := hidE (HBY.out.setCell (p := ⟨g, no, none⟩) (by have := HGB.out; simp; omega) (.int .i64 (v2 + r)))
     have HU2 := hidE (show s + (j + 1) = u + 1 by have := HU.out; omega)
     go_wp2_with fail
     go_roundw
     case rel => exact ⟨j + 1, u + 1, HJ.out, HU2, by go_num, HXZ, HPZ, HGZ, HBZ⟩
     case measure => have := HJ.out; have := HU.out; simp [intOf]; omega
    ·obtain rfl : j = 2 := by omega
     have hus : ¬ u ≤ s1 := by have := HU.out; have := HS1.out; omega
     have du : decide ((u : Int) ≤ (s1 : Int)) = false := by simp; omega
     have du' : decide (u ≤ s1) = false := by simp; omega
     have hms : (s1 : Int) = ((m + (k + 1) : Nat) : Int) := by have := HS.out; have := HS1.out; omega
     have HMS := hidE hms
     clear hms
     have HG4 := hidE (show w3.heap[g]? = some (.cells (rowA (A (k + 1) 0)) 3 (0,0)) by rw [← HA2.out]; exact HG3.out)
     go_wp2_with fail
     go_roundw
     case rel => exact ⟨k + 1, HLT.out, by rw [HMS.out], HX3, HP3, HG4, HB3⟩
     case measure => have := HLT.out; have := HS.out; have := HS1.out; have := HK.out; simp [intOf]; omega
  ·obtain rfl : k = K := by omega
   have hsE : decide ((s : Int) < (E : Int)) = false := by simp; omega
   have hsE' : decide (s < E) = false := by simp; omega
   rw [hs]
   clear hE hs
   go_wp2_with fail
   go_ret
   exact ⟨g, rfl, by rw [HEND.out]; exact HG.out, by have := HGB.out; omega, HB.out⟩
end Go.Proofs.YthjmkmjojlfejaaGreat
