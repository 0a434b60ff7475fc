/- Walk: the reference's follow. Conditions: rows of sums of a bounded size. -/
import Derived.Test.YtejbpoclfjkllaaCZo
import Derived.Test.YtejbpoclfjkllaaA3b
import Derived.Test.YtejbpoclfjkllaaCYf
import Derived.Test.YtejbpoclfjkllaaCZk
namespace Go.Proofs.Ytejbpoclfjkllaa
open Go Go.RowKit Go.Shelf
attribute [local go_sem] Oper.semAt_some

def ksFrom (s n : Nat) : List Nat := (List.range (n - s)).map (s + ·)
theorem ksFrom_all (n : Nat) : passes allT n = ksFrom 0 n := by rw [passes_all]; simp [ksFrom]
theorem ksFrom_later {i n : Nat} (hi : i < n) : passes (laterT i) n = ksFrom (i + 1) n := passes_later i n hi
theorem ksFrom_none {p : Nat → Bool} {s n : Nat} (h : ∀ j, j < n - s → p (s + j) = false) : (ksFrom s n).find? p = none := by
  unfold ksFrom
  rw [List.find?_map, find_range_none (p := p ∘ (s + ·)) h]; rfl
theorem ksFrom_some {p : Nat → Bool} {s n j : Nat} (hj : j < n - s) (h : ∀ j', j' < j → p (s + j') = false) (hp : p (s + j) = true) : (ksFrom s n).find? p = some (s + j) := by
  unfold ksFrom
  rw [List.find?_map, find_range_some (p := p ∘ (s + ·)) hj h hp]; rfl

/-- What stands while a list is followed. -/
structure FoSt (w0 W : World) (q : Nat) (sys : Array Value) (v : Value) (acc : List Int) : Prop where
  x0 : W.heap[q]? = some (.cells sys 24 (0,0))
  o : W.ownsRow w0.heap.size 3 1 v acc.length (intsV acc)
  bl : Below w0.heap.size w0 W
theorem FoSt.grow {w0 W W' : World} {q : Nat} {sys : Array Value} {v : Value} {acc : List Int} (s : FoSt w0 W q sys v acc) (hb : Below W.heap.size W W') : FoSt w0 W' q sys v acc :=
  ⟨blk_below hb (lt_of_block s.x0) s.x0, ownsRow_of_block s.o (fun g hg => hb.block g (owns_lt' s.o hg)), s.bl.trans (hb.mono s.bl.size)⟩
theorem FoSt.push {w0 W : World} {q : Nat} {sys : Array Value} {v : Value} {acc : List Int} (s : FoSt w0 W q sys v acc) (hq : q < w0.heap.size) (n : Int) (hl : acc.length ≤ 100000) :
    ∃ v' W1, Hid ((Builtin.append_ #[27, 27] 27 #[v, .slice (some ⟨W.heap.size, 0, none⟩) 1 1]).run Try.prog (W.alloc (.cells #[.int .i64 n] 3)) = .ok v' W1) ∧ Hid (FoSt w0 W1 q sys v' (acc ++ [n])) ∧ Hid (∀ b, b < W.heap.size → v.ownBlock ≠ some b → W1.heap[b]? = W.heap[b]?) := by
  have ba : Below W.heap.size W (W.alloc (.cells #[.int .i64 n] 3)) := (Below.refl _ _).alloc (Nat.le_refl _) _
  obtain ⟨v', W1, r1, p1, q1, k1⟩ := append_int (W.alloc (.cells #[.int .i64 n] 3)) w0.heap.size v acc (World.ownsRow.alloc s.o _) W.heap.size n (heap_alloc_new _ _) hl (Nat.le_trans s.bl.size ba.size) 27
  have hb : Below w0.heap.size W W1 := (ba.mono s.bl.size).trans q1
  exact ⟨v', W1, hidE r1, hidE ⟨(hb.block q hq).trans s.x0, p1, s.bl.trans hb⟩, hidE (fun b hb1 hne => (k1 b (Nat.lt_of_lt_of_le hb1 ba.size) hne).trans (ba.block b hb1))⟩

set_option maxRecDepth 100000 in
set_option maxHeartbeats 4000000 in
theorem follow_any (w : World) (R : Nat) (a : Option Addr) (cap : Nat) (bs : List Bd) (B F s K : Nat) (ads : List Nat) (f : Nat → List Fr) (at0 least lim : Int) (hl : bs.length ≤ 4000) (hs : least + 1 = (s : Int)) (hsl : s ≤ bs.length) (h : BoundsAt w a bs) (hv : AllValid R bs)
    (hf : FrRows w B R ads f) (hal : ads.length = F) (hKF : K ≤ F) (hF : F ≤ 200) (hfl : ∀ k, (f k).length = R) (hfb : ∀ k v, k < F → v < R → ((f k).getD v fr0).ok = true → -200000000 ≤ ((f k).getD v fr0).s ∧ ((f k).getD v fr0).s ≤ 200000000) (hlim : -4000000000 ≤ lim ∧ lim ≤ 4000000000) :
    Calls Try.prog 119 #[.agg #[.int .i64 (R : Int), .slice a bs.length cap], .slice (some ⟨B, 0, none⟩) F F, .int .i64 at0, .int .i64 (K : Int), .int .i64 least, .int .i64 lim] w fun e w' => IntsOut (followR bs f (ksFrom s bs.length) K at0 lim []) w.heap.size e w' ∧ Below w.heap.size w w' := by
  obtain ⟨w0, hw0⟩ : ∃ X, X = w.alloc (.cells #[.int .i64 (R : Int), .slice a bs.length cap] 24) := ⟨_, rfl⟩
  have b0 : Below w.heap.size w w0 := by rw [hw0]; exact (Below.refl _ _).alloc (Nat.le_refl _) _
  have x0 : w0.heap[w.heap.size]? = some (.cells #[.int .i64 (R : Int), .slice a bs.length cap] 24 (0,0)) := by rw [hw0]; exact heap_alloc_new _ _
  have l0 : w.heap.size < w0.heap.size := lt_of_block x0
  have st0 : FoSt w0 w0 w.heap.size #[.int .i64 (R : Int), .slice a bs.length cap] (.slice none 0 0) [] := ⟨x0, World.ownsRow_nil _ _ _ _, Below.refl _ _⟩
  obtain ⟨ks, hks⟩ : ∃ ks, ksFrom s bs.length = ks := ⟨_, rfl⟩
  obtain ⟨G, hG⟩ : ∃ G, followR bs f ks K at0 lim [] = G := ⟨_, rfl⟩
  have hr0 : ∀ A L acc, followR bs f ks 0 A L acc = acc := fun _ _ _ => rfl
  have hrs : ∀ k A L acc, followR bs f ks (k + 1) A L acc = match ks.find? (fitsR bs f k A L) with | none => followR bs f ks k A L acc | some i => followR bs f ks k (bs.getD i bd0).dst (L - (bs.getD i bd0).most) (acc ++ [(i : Int)]) := fun _ _ _ _ => rfl
  rw [hks, hG]
  have B0 := hidE b0
  have HW0 := hidE hw0
  have ST0 := hidE st0
  have HR0 := hidE hr0
  have HRS := hidE hrs
  have HG := hidE hG
  have HKS := hidE hks
  have H := hidE (h.below b0 (Nat.le_refl _))
  have HV := hidE hv
  have HROW := hidE (hf.below b0)
  have HAL := hidE hal
  have HFL := hidE hfl
  have HFB := hidE hfb
  have HS := hidE hs
  have hwl : IntKind.i64.wrap (least + 1) = (s : Int) := by rw [IntWalk.i64_in _ (by omega)]; omega
  obtain ⟨hlim1, hlim2⟩ := hlim
  clear b0 hw0 x0 st0 hr0 hrs hG hks h hv hf hal hfl hfb hs
  go_enter Try.func119, Try.ntmps119
  go_upto_region 1 with fail
  rw [← HW0.out]
  go_wp2_with fail
  go_loopw [13, 14, 15, 16] (fun v13 va vl i wr => ∃ (k : Nat) (A L : Int) (acc : List Int), k ≤ K ∧ i = .int .i64 k ∧ va = .int .i64 A ∧ vl = .int .i64 L ∧ Hid (followR bs f ks k A L acc = G) ∧ Hid (FoSt w0 wr w.heap.size #[.int .i64 (R : Int), .slice a bs.length cap] v13 acc) ∧ Hid (acc.length + k ≤ K) ∧ (-4000000000 - ((K : Int) - k) * 1000000 ≤ L ∧ L ≤ 4000000000 + ((K : Int) - k) * 1000000)) (fun _ _ _ i _ => (intOf i).toNat)
  case atStart => exact ⟨K, at0, lim, [], by omega, rfl, rfl, rfl, HG, ST0, hidE (by simp), by omega, by omega⟩
  case round =>
    obtain ⟨k, A, L, acc, hk, rfl, rfl, rfl, hG, hst, hlen, hL1, hL2⟩ := hrel
    by_cases hk0 : 0 < k
    · obtain ⟨m, hkm'⟩ : ∃ m, k = m + 1 := ⟨k - 1, by omega⟩
      have hk00 : (k : Int) > 0 := by omega
      have hkm : (k : Int) - 1 = (m : Int) := by omega
      have wkm : IntKind.i64.wrap ((k : Int) - 1) = (m : Int) := by rw [IntWalk.i64_in _ (by omega)]; omega
      have wm : IntKind.i64.wrap (m : Int) = (m : Int) := IntWalk.i64_in _ (by omega)
      have mF : (m : Int) < (F : Int) := by omega
      have mF' : m < F := by omega
      have hstep := HRS.out m A L acc
      rw [← hkm', hG.out] at hstep
      have HKM := hidE hkm'
      have HSTEP := hidE hstep
      have STI := hst
      clear hkm' hstep hst hG
      obtain ⟨wO, rfl⟩ : ∃ x : World, x = wr := ⟨wr, rfl⟩
      go_wp2_with fail
      go_loopw [13, 14, 15, 17] (fun x13 va vl i wx => ∃ j : Nat, s + j ≤ bs.length ∧ i = .int .i64 ((s + j : Nat) : Int) ∧ va = .int .i64 A ∧ vl = .int .i64 L ∧ Hid (∀ j', j' < j → fitsR bs f m A L (s + j') = false) ∧ Hid (FoSt w0 wx w.heap.size #[.int .i64 (R : Int), .slice a bs.length cap] x13 acc)) (fun _ _ _ i _ => bs.length - (intOf i).toNat)
      case atStart => exact ⟨0, by omega, rfl, rfl, rfl, hidE (fun j' hj' => by omega), STI⟩
      case round =>
        obtain ⟨wx, rfl⟩ : ∃ x : World, x = wr := ⟨wr, rfl⟩
        obtain ⟨j, hj, rfl, rfl, rfl, hno, hst⟩ := hrel
        have e1 : wx.cell? ⟨w.heap.size, 1, none⟩ = some (.slice a bs.length cap) := by rw [cell_of_row _ _ _ _ _ _ hst.out.x0]; rfl
        obtain ⟨i, hi⟩ : ∃ i, i = s + j := ⟨_, rfl⟩
        rw [← hi]
        by_cases hlb : i < bs.length
        · obtain ⟨bb, off, rfl, hbl, hcs⟩ := H.out.at hlb
          obtain ⟨c0, c1, c2, c3⟩ := hcs.below hst.out.bl hbl
          have hval := HV.out bs[i] (List.getElem_mem _)
          have hxd : bs.getD i bd0 = bs[i] := by simp [List.getD_eq_getElem?_getD, hlb]
          have hfit : fitsR bs f m A L i = (bs[i].src == A && ((f m).getD bs[i].dst.toNat fr0).ok && decide (bs[i].most + ((f m).getD bs[i].dst.toNat fr0).s ≤ L)) := by unfold fitsR; rw [hxd]
          obtain ⟨x, hx⟩ : ∃ x, bs[i] = x := ⟨_, rfl⟩
          rw [hx] at c0 c1 c2 c3 hval hfit hxd
          obtain ⟨ys, yd, ym, yr⟩ := x
          obtain ⟨v1, v2, v3, v4, v5, v6⟩ := hval
          simp only at c0 c1 c2 c3 v1 v2 v3 v4 v5 v6 hfit
          obtain ⟨di, rfl⟩ := Int.eq_ofNat_of_zero_le v3
          rw [Int.toNat_natCast] at hfit
          have diR : (di : Int) < (R : Int) := v4
          have diR' : di < R := by omega
          have HI := hidE hi
          have HXD := hidE hxd
          have iL : (i : Int) < (bs.length : Int) := by omega
          clear hi hx hcs hxd
          go_upto_region 11 with fail
          obtain ⟨W2, hW2⟩ : ∃ X, X = wx.alloc (Obj.cells #[.int .i64 ys, .int .i64 (di : Int), .int .i64 ym, .int .i64 yr] 44) := ⟨_, rfl⟩
          rw [← hW2]
          obtain ⟨h, hh⟩ : ∃ h, h = wx.heap.size := ⟨_, rfl⟩
          rw [← hh]
          have hbx : W2.heap[h]? = some (.cells #[.int .i64 ys, .int .i64 (di : Int), .int .i64 ym, .int .i64 yr] 44 (0,0)) := by rw [hW2, hh]; exact heap_alloc_new _ _
          have b2 : Below wx.heap.size wx W2 := by rw [hW2]; exact (Below.refl _ _).alloc (Nat.le_refl _) _
          have HS2 := hidE (hst.out.grow b2)
          have HBX := hidE hbx
          have d1 : W2.cell? ⟨h, 1, none⟩ = some (.int .i64 (di : Int)) := by rw [cell_of_row _ _ _ _ _ _ hbx]; rfl
          clear hW2 hh b2 hbx c0 c1 c2 c3 e1 hst
          have hml : m < ads.length := by rw [HAL.out]; exact mF'
          have hrows := HROW.out.below HS2.out.bl
          have d4 := hrows.slot hml
          obtain ⟨d7, d8⟩ := hrows.cells hml (j := di) (by rw [HFL.out]; exact diR')
          have lB : B < W2.heap.size := lt_of_block hrows.out
          have lp : ads.getD m 0 < W2.heap.size := lt_of_block (hrows.row m hml)
          obtain ⟨pq, hpq⟩ : ∃ p, ads.getD m 0 = p := ⟨_, rfl⟩
          rw [hpq] at d4 d7 d8 lp
          have pbd := HFB.out m di mF' diR'
          obtain ⟨⟨ps, po⟩, hpp⟩ : ∃ x, (f m).getD di fr0 = x := ⟨_, rfl⟩
          rw [hpp] at d7 d8 pbd hfit
          simp only at d7 d8 pbd hfit
          have HFIT := hidE hfit
          have lh : h < W2.heap.size := lt_of_block HBX.out
          clear hpp hpq hrows hfit
          refine wp_region_F (S := fun V => V.cell? ⟨h, 1, none⟩ = some (.int .i64 (di : Int)) ∧ V.cell? ⟨B, m, none⟩ = some (.slice (some ⟨pq, 0, none⟩) R R) ∧ V.cell? ⟨pq, di * 2, none⟩ = some (.int .i64 ps) ∧ V.cell? ⟨pq, di * 2 + 1, none⟩ = some (.bool po)) (last := 10) (by kernel_rfl) ?_
          have hS0 : W2.drew.cell? ⟨h, 1, none⟩ = some (.int .i64 (di : Int)) ∧ W2.drew.cell? ⟨B, m, none⟩ = some (.slice (some ⟨pq, 0, none⟩) R R) ∧ W2.drew.cell? ⟨pq, di * 2, none⟩ = some (.int .i64 ps) ∧ W2.drew.cell? ⟨pq, di * 2 + 1, none⟩ = some (.bool po) := ⟨d1, d4, d7, d8⟩
          refine wpAnyF_take (i := 0) (v := (.slice (some ⟨B, 0, none⟩) F F)) (by kernel_rfl) (by decide) rfl (by kernel_rfl) (by kernel_rfl) (by kernel_rfl) (fun _ _ _ h => h) (.inl ⟨rfl, fun V hV => ?_⟩) hS0 ?_
          · obtain ⟨z0, z1, z2, z3⟩ := hV
            simp [go_sem, execOp]
          simp only [Act.put, List.setIfInBounds_toArray]
          refine wpAnyF_take (i := 1) (v := (.int .i64 (k : Int))) (by kernel_rfl) (by decide) rfl (by kernel_rfl) (by kernel_rfl) (by kernel_rfl) (fun _ _ _ h => h) (.inl ⟨rfl, fun V hV => ?_⟩) hS0 ?_
          · obtain ⟨z0, z1, z2, z3⟩ := hV
            simp [go_sem, execOp]
          simp only [Act.put]
          refine wpAnyF_take (i := 2) (v := (.int .i64 (m : Int))) (by kernel_rfl) (by decide) rfl (by kernel_rfl) (by kernel_rfl) (by kernel_rfl) (fun _ _ _ h => h) (.inl ⟨rfl, fun V hV => ?_⟩) hS0 ?_
          · obtain ⟨z0, z1, z2, z3⟩ := hV
            simp [go_sem, execOp, wm, hkm]
          simp only [Act.put]
          refine wpAnyF_take (i := 3) (v := (.pointer (some ⟨B, m, none⟩))) (by kernel_rfl) (by decide) rfl (by kernel_rfl) (by kernel_rfl) (by kernel_rfl) (fun _ _ _ h => h) (.inl ⟨rfl, fun V hV => ?_⟩) hS0 ?_
          · obtain ⟨z0, z1, z2, z3⟩ := hV
            simp [go_sem, execOp, mF]
          simp only [Act.put]
          refine wpAnyF_take (i := 4) (v := (.slice (some ⟨pq, 0, none⟩) R R)) (by kernel_rfl) (by decide) rfl (by kernel_rfl) (by kernel_rfl) (by kernel_rfl) (fun _ _ _ h => h) (.inl ⟨rfl, fun V hV => ?_⟩) hS0 ?_
          · obtain ⟨z0, z1, z2, z3⟩ := hV
            simp [go_sem, execOp, z1]
          simp only [Act.put]
          refine wpAnyF_take (i := 5) (v := (.pointer (some ⟨h, 1, none⟩))) (by kernel_rfl) (by decide) rfl (by kernel_rfl) (by kernel_rfl) (by kernel_rfl) (fun _ _ _ h => h) (.inl ⟨rfl, fun V hV => ?_⟩) hS0 ?_
          · obtain ⟨z0, z1, z2, z3⟩ := hV
            simp [go_sem, execOp]
          simp only [Act.put]
          refine wpAnyF_take (i := 6) (v := (.int .i64 (di : Int))) (by kernel_rfl) (by decide) rfl (by kernel_rfl) (by kernel_rfl) (by kernel_rfl) (fun _ _ _ h => h) (.inl ⟨rfl, fun V hV => ?_⟩) hS0 ?_
          · obtain ⟨z0, z1, z2, z3⟩ := hV
            simp [go_sem, execOp, z0]
          simp only [Act.put]
          refine wpAnyF_take (i := 7) (v := (.pointer (some ⟨pq, di * 2, none⟩))) (by kernel_rfl) (by decide) rfl (by kernel_rfl) (by kernel_rfl) (by kernel_rfl) (fun _ _ _ h => h) (.inl ⟨rfl, fun V hV => ?_⟩) hS0 ?_
          · obtain ⟨z0, z1, z2, z3⟩ := hV
            simp [go_sem, execOp, diR]
          simp only [Act.put]
          refine wpAnyF_take (i := 8) (v := (.agg #[.int .i64 ps, .bool po])) (by kernel_rfl) (by decide) rfl (by kernel_rfl) (by kernel_rfl) (by kernel_rfl) (fun _ _ _ h => h) (.inl ⟨rfl, fun V hV => ?_⟩) hS0 ?_
          · obtain ⟨z0, z1, z2, z3⟩ := hV
            simp [go_sem, execOp, z2, z3]
          simp only [Act.put]
          have ba : Below W2.heap.size W2 (W2.drew.alloc (.cells #[.int .i64 0, .bool false] 98)) := ((Below.refl _ W2).drew).alloc (Nat.le_refl _) _
          have k1 := (ba.cell (p := ⟨h, 1, none⟩) lh).trans d1
          have k4 := (ba.cell (p := ⟨B, m, none⟩) lB).trans d4
          have k7 := (ba.cell (p := ⟨pq, di * 2, none⟩) lp).trans d7
          have k8 := (ba.cell (p := ⟨pq, di * 2 + 1, none⟩) lp).trans d8
          refine wpAnyF_step 9 rfl (by kernel_rfl) (fun K hK => ?_)
          go_simp
          refine hK.out _ _ (.inr ⟨k1, k4, k7, k8⟩) ?_
          clear hK K
          try simp only [Act.put, List.setIfInBounds_toArray, List.set_cons_succ, List.set_cons_zero]
          refine wpAnyF_step 10 rfl (by kernel_rfl) (fun K hK => ?_)
          go_simp
          refine hK.out _ _ (.inl rfl) ?_
          clear hK K
          refine wpAnyF_done (by kernel_rfl) ?_ _
          obtain ⟨W5, hW5⟩ : ∃ X, X = (W2.alloc (Obj.cells #[.int .i64 ps, .bool po] 98)).drew := ⟨_, rfl⟩
          rw [← hW5]
          obtain ⟨g, hg⟩ : ∃ g, g = W2.heap.size := ⟨_, rfl⟩
          rw [← hg]
          have b5 : Below W2.heap.size W2 W5 := by rw [hW5]; exact ((Below.refl _ _).alloc (Nat.le_refl _) _).drew
          have x5 : W5.heap[g]? = some (.cells #[.int .i64 ps, .bool po] 98 (0,0)) := by rw [hW5, hg]; exact heap_alloc_new _ _
          have HS5 := hidE (HS2.out.grow b5)
          have y5 := blk_below b5 lh HBX.out
          have e0 : W5.cell? ⟨h, 0, none⟩ = some (.int .i64 ys) := by rw [cell_of_row _ _ _ _ _ _ y5]; rfl
          have e1 : W5.cell? ⟨h, 1, none⟩ = some (.int .i64 (di : Int)) := by rw [cell_of_row _ _ _ _ _ _ y5]; rfl
          have e2 : W5.cell? ⟨h, 2, none⟩ = some (.int .i64 ym) := by rw [cell_of_row _ _ _ _ _ _ y5]; rfl
          have g0 : W5.cell? ⟨g, 0, none⟩ = some (.int .i64 ps) := by rw [cell_of_row _ _ _ _ _ _ x5]; rfl
          have g1 : W5.cell? ⟨g, 1, none⟩ = some (.bool po) := by rw [cell_of_row _ _ _ _ _ _ x5]; rfl
          have HY5 := hidE y5
          clear hW5 hg b5 x5 y5 ba k1 k4 k7 k8 d1 d4 d7 d8 hS0 lB lp lh HS2 HBX
          by_cases hat : ys = A
          · have hb : (ys == A) = true := by simpa using hat
            cases po with
            | false =>
              have hfn : fitsR bs f m A L i = false := by rw [HFIT.out, hb]; rfl
              clear hat pbd HFIT
              have HFN := hidE hfn
              clear hfn
              go_wp2_with fail
              go_roundw
              case rel => exact ⟨j + 1, by have := HI.out; omega, by rw [show s + (j + 1) = i + 1 by have := HI.out; omega]; go_num, rfl, rfl, hidE (fun j' hj' => by
                by_cases e : j' = j
                · subst e; rw [← HI.out]; exact HFN.out
                · exact hno.out j' (by omega)), HS5⟩
              case measure => simp [intOf]; omega
            | true =>
              obtain ⟨p1, p2⟩ := pbd rfl
              by_cases hle : ym + ps ≤ L
              · have hd : decide (ym + ps ≤ L) = true := decide_eq_true hle
                have hft : fitsR bs f m A L i = true := by rw [HFIT.out, hb, hd]; rfl
                have hfind : ks.find? (fitsR bs f m A L) = some i := by
                  rw [← HKS.out, HI.out]
                  exact ksFrom_some (by have := HI.out; omega) hno.out (by rw [← HI.out]; exact hft)
                have hG2 : followR bs f ks m (di : Int) (L - ym) (acc ++ [(i : Int)]) = G := by
                  have := HSTEP.out
                  rw [hfind] at this
                  simp only [HXD.out] at this
                  exact this.symm
                obtain ⟨v', W6, HR6, HS6, HK6⟩ := HS5.out.push l0 (i : Int) (by have := hlen.out; omega)
                have HG2 := hidE hG2
                have wlm : IntKind.i64.wrap (L - ym) = L - ym := IntWalk.i64_in _ (by omega)
                have wps : IntKind.i64.wrap (ym + ps) = ym + ps := IntWalk.i64_in _ (by omega)
                have lhh : h < W5.heap.size := lt_of_block HY5.out
                have hne : ∀ o, u13.ownBlock = some o → o ≠ h := fun o ho => owns_type HS5.out.o HY5.out (by decide) ho
                have q1 : W6.cell? ⟨h, 1, none⟩ = some (.int .i64 (di : Int)) := (World.cell?_of_block (w := W5) (HK6.out h lhh (fun e => hne h e rfl))).trans e1
                have q2 : W6.cell? ⟨h, 2, none⟩ = some (.int .i64 ym) := (World.cell?_of_block (w := W5) (HK6.out h lhh (fun e => hne h e rfl))).trans e2
                clear hft hfind hG2 hat pbd HFIT hle hne
                go_wp2_with (at_builtin; refine wpList_op_append rfl (s := .tmp 67) (x := .tmp 69) (t := 27) rfl rfl rfl HR6.out ?_)
                go_roundw
                case rel => exact ⟨m, (di : Int), L - ym, acc ++ [(i : Int)], by omega, by first | rfl | go_num, rfl, rfl, HG2, HS6, hidE (by have := hlen.out; have := HKM.out; simp; omega), by omega, by omega⟩
                case measure => simp [intOf]; omega
              · have hd : decide (ym + ps ≤ L) = false := decide_eq_false hle
                have hfn : fitsR bs f m A L i = false := by rw [HFIT.out, hb, hd]; rfl
                have wps : IntKind.i64.wrap (ym + ps) = ym + ps := IntWalk.i64_in _ (by omega)
                clear hat pbd HFIT
                have HFN := hidE hfn
                clear hfn
                go_wp2_with fail
                go_roundw
                case rel => exact ⟨j + 1, by have := HI.out; omega, by rw [show s + (j + 1) = i + 1 by have := HI.out; omega]; go_num, rfl, rfl, hidE (fun j' hj' => by
                  by_cases e : j' = j
                  · subst e; rw [← HI.out]; exact HFN.out
                  · exact hno.out j' (by omega)), HS5⟩
                case measure => simp [intOf]; omega
          · have hb : (ys == A) = false := by simpa using hat
            have hfn : fitsR bs f m A L i = false := by rw [HFIT.out, hb]; rfl
            clear hat pbd HFIT
            have HFN := hidE hfn
            clear hfn
            go_wp2_with fail
            go_roundw
            case rel => exact ⟨j + 1, by have := HI.out; omega, by rw [show s + (j + 1) = i + 1 by have := HI.out; omega]; go_num, rfl, rfl, hidE (fun j' hj' => by
              by_cases e : j' = j
              · subst e; rw [← HI.out]; exact HFN.out
              · exact hno.out j' (by omega)), HS5⟩
            case measure => simp [intOf]; omega
        · have hfind : ks.find? (fitsR bs f m A L) = none := by
            rw [← HKS.out]
            exact ksFrom_none (fun j' hj' => hno.out j' (by omega))
          have hG2 : followR bs f ks m A L acc = G := by
            have := HSTEP.out
            rw [hfind] at this
            exact this.symm
          have HG2 := hidE hG2
          clear hfind hG2
          go_wp2_with fail
          go_roundw
          case rel => exact ⟨m, A, L, acc, by omega, by first | rfl | go_num, rfl, rfl, HG2, hst, hidE (by have := hlen.out; have := HKM.out; omega), by omega, by omega⟩
          case measure => simp [intOf]; omega
    · obtain rfl : k = 0 := by omega
      have hacc : acc = G := by rw [← hG.out, HR0.out]
      obtain ⟨o9, c9, e9, _, _⟩ := intsAt_of_owns hst.out.o
      subst e9
      have HOW := hidE (ownsRow_base hst.out.o B0.out.size)
      have HBF := hidE (B0.out.trans (hst.out.bl.mono B0.out.size))
      have HACC := hidE hacc
      clear hacc hst hG
      go_wp2_with fail
      go_ret
      refine ⟨?_, HBF.out⟩
      rw [← HACC.out]
      exact ⟨_, rfl, HOW.out⟩

end Go.Proofs.Ytejbpoclfjkllaa
