/- Walks: the stable sort at bounds that stand in order leaves them as they are. Conditions: the list is in order. -/
import Derived.Test.YthcmjhellpjllaaGreatCS1
import Derived.IntWalk
namespace Go.Proofs.YthcmjhellpjllaaGreat
open Go Go.RowKit Go.Shelf

/-- No bound comes before an earlier one. -/
def OrderedB (bs : List Bd) : Prop := ∀ i j (hi : i < bs.length) (hj : j < bs.length), i < j → 0 ≤ cmpB bs[j] bs[i]

/-- What a comparison of two of the list's bounds yields. -/
theorem cmp_later {bs : List Bd} (ho : OrderedB bs) {i j : Nat} (hi : i < bs.length) (hj : j < bs.length) (h : i < j) (W : World) :
    Calls Tryz.prog 25 #[bs[j].val, bs[i].val] W fun e w' => (∃ c, e = .returned (.int .i64 c) ∧ decide (c < 0) = false) ∧ Below W.heap.size W w' :=
  (compared_any _ _ W).mono fun e w' h2 => ⟨⟨_, h2.1, by have := ho i j hi hj h; simpa using this⟩, h2.2⟩

set_option maxRecDepth 100000 in
set_option maxHeartbeats 1000000 in
theorem insertion_still (w : World) (a : Option Addr) (cap : Nat) (bs : List Bd) (lo hi : Nat) (hhi : hi ≤ bs.length) (hl : bs.length ≤ 100000) (h : BoundsAt w a bs) (ho : OrderedB bs) (hlo : lo ≤ bs.length) :
    Calls Tryz.prog 83 #[.slice a bs.length cap, .int .i64 (lo : Int), .int .i64 (hi : Int), .func (.func 25) #[] #[]] w fun e w' => e = .returned (.tuple #[]) ∧ Below w.heap.size w w' := by
  have H := hidE h
  have HO := hidE ho
  clear h ho
  go_enter Tryz.func83, Tryz.ntmps83
  go_wp2
  go_loopw [8] (fun i wr => ∃ k : Nat, lo < k ∧ k ≤ lo + bs.length + 1 ∧ i = .int .i64 (k : Int) ∧ Hid (Below w.heap.size w wr))
      (fun i _ => lo + bs.length + 2 - (intOf i).toNat)
  case atStart => exact ⟨lo + 1, by omega, by omega, by go_num, hidE (Below.refl _ _)⟩
  case round =>
    obtain ⟨k, hk0, hk, rfl, hb⟩ := hrel
    by_cases hlt : k < hi
    · have hk1 : k < bs.length := by omega
      have d1 : (k : Int) < (hi : Int) := by omega
      obtain ⟨wA, rfl⟩ : ∃ x : World, x = wr := ⟨wr, rfl⟩
      obtain ⟨b, off, hab, hbl, hcs⟩ := H.out.at hk1
      obtain ⟨b', off', hab', hbl', hcs'⟩ := H.out.at (k := k - 1) (by omega)
      obtain ⟨rfl, rfl⟩ : b' = b ∧ off' = off := by rw [hab] at hab'; cases hab'; exact ⟨rfl, rfl⟩
      subst hab
      have hcall := fun W => cmp_later HO.out (i := k - 1) (j := k) (by omega) hk1 (by omega) W
      obtain ⟨x, hx⟩ : ∃ x, bs[k] = x := ⟨_, rfl⟩
      obtain ⟨y, hy⟩ : ∃ y, bs[k - 1]'(by omega) = y := ⟨_, rfl⟩
      rw [hx] at hcs hcall
      rw [hy] at hcs' hcall
      have HCS := hidE hcs
      have HCS' := hidE hcs'
      obtain ⟨k', hk'⟩ : ∃ k', k - 1 = k' := ⟨_, rfl⟩
      rw [hk'] at HCS'
      have kk : (k : Int) - 1 = (k' : Int) := by omega
      have kl : (k' : Int) < (bs.length : Int) := by omega
      have kl2 : (k : Int) < (bs.length : Int) := by omega
      have wk : IntKind.i64.wrap (k' : Int) = (k' : Int) := IntWalk.i64_in _ (by omega)
      have dk : decide ((lo : Int) < (k : Int)) = true := by simp; omega
      obtain ⟨xs, xd, xm, xr⟩ := x
      obtain ⟨ys, yd, ym, yr⟩ := y
      simp only [Bd.val] at hcall
      have HCA := hidE hcall
      clear hx hy hcall hcs hcs' hab' hk'
      go_wp2_with fail
      go_loopw [9] (fun i wx => i = .int .i64 (k : Int) ∧ wx = wA) (fun _ _ => 0)
      case atStart => exact ⟨rfl, rfl⟩
      case round =>
        obtain ⟨rfl, rfl⟩ := hrel
        obtain ⟨wx, rfl⟩ : ∃ x : World, x = wr := ⟨wr, rfl⟩
        obtain ⟨c0, c1, c2, c3⟩ := HCS.out.below hb.out hbl
        obtain ⟨e0, e1, e2, e3⟩ := HCS'.out.below hb.out hbl
        simp only at c0 c1 c2 c3 e0 e1 e2 e3
        go_upto_region 4 with fail
        go_still_tail 14, (by kernel_rfl)
        change wpList _ _ _ _ _ wx.drew
        go_wp2_with fail
        refine (HCA.out _).mono ?_
        rintro e w2 ⟨⟨c, rfl, hc⟩, hb2⟩
        go_wp2_with fail
        go_roundw
        case rel => exact ⟨k + 1, by omega, by omega, by go_num, hidE (hb.out.trans (((Below.refl _ _).drew.trans hb2).mono hb.out.size))⟩
        case measure => simp [intOf]; omega
    · go_wp2_with fail
      go_end0
      exact ⟨rfl, hb.out⟩

end Go.Proofs.YthcmjhellpjllaaGreat
