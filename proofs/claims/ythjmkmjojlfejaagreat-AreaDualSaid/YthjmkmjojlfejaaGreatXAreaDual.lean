/- What the law AreaDual needs beyond the base: PureB, PlB, Sm, Mf2, Mf4, Mf5, Mf6, Mf7, Nh0, Du0, Wu, PlQ, Y2, Ad, Ae, Du1, Al1, Ld. No conditions beyond those stated. -/
import Derived.Test.YthjmkmjojlfejaaGreatB01
import Derived.Test.YthjmkmjojlfejaaGreatB03
import Derived.Test.YthjmkmjojlfejaaGreatB02
import Derived.Test.YthjmkmjojlfejaaGreatB10
import Derived.Test.YthjmkmjojlfejaaGreatB11
import Derived.Test.YthjmkmjojlfejaaGreatB12
import Derived.Test.YthjmkmjojlfejaaGreatProg
import Derived.WalkKit
import Derived.Handy
import Derived.RangeFuncRecord
import Derived.Shelf.Abstract
import Derived.Deep.QuietTactic
import Derived.BigQuiet
import Derived.Laws.CopyOwn
import Derived.WalkSmall
import Derived.RangeFuncNested
import Derived.RangeFuncBound
import Derived.RangeFuncCalls
import Derived.RangeFuncLeaves
import Derived.Shelf.RegionOpen
import Derived.OwnWalkIn
import Derived.TacticsInMore
import Derived.LoopNIn
import Derived.LoopIn
import Derived.Maps.AppendAt
import Derived.Deep.Onto
import Derived.OrdersHeld
import Derived.Deep.LoopGhost
import Derived.Deep.WholeRow
import Derived.Deep.OwnRows
import Derived.StillTailTactics
import Derived.Great.Walk
import Derived.Great.BuildSlice
import Derived.WalkMore
import Derived.Deep.MidRow
import Derived.Deep.RegionHeld3
import Derived.Deep.DeepCutAuto
import Derived.Shelf.Small.Bits
import Derived.Shelf.Small.Wraps
import Derived.Shelf.Strconv.Itoa0
import Derived.Shelf.Sort.Plain
import Derived.Shelf.Slices.Turned
import Derived.Ground.Names2Prog
import Derived.Shelf.Slices.CompactI
import Derived.Shelf.Slices.SearchI
import Derived.Shelf.Slices.Cells
import Derived.Shelf.Slices.In.SortNone
import Derived.Lib.OwnBridge
import Derived.Lib.SliceRun
import Derived.WalkSpells
import Derived.Deep.RegionWith
import Derived.Lib.AppendZerosOnto
import Derived.Deep.CutBlock
import Derived.IntWalk
import Derived.Test.YthjmkmjojlfejaaGreatB13
import Derived.Test.YthjmkmjojlfejaaGreatB09
import Derived.Test.YthjmkmjojlfejaaGreatB08
import Derived.Test.YthjmkmjojlfejaaGreatB05
import Derived.Test.YthjmkmjojlfejaaGreatB04
import Derived.Scope
import Derived.Test.YthjmkmjojlfejaaGreatB07
import Derived.Test.YthjmkmjojlfejaaGreatB06

namespace Go.Proofs.YthjmkmjojlfejaaGreat
theorem foldl_relaxC_low {N : Int} (bs : List Bd) : ∀ (c : Nat) (s : List Int × Bool), (∀ b ∈ bs, b.valid N) → LowBy c s.1 → LowBy (c + bs.length) (bs.foldl relaxC s).1 := by
  induction bs with
  | nil => intro c s _ H; exact H
  | cons b bs ih =>
    intro c s hv H
    have := ih (c + 1) (relaxC s b) (fun x hx => hv x (List.mem_cons_of_mem _ hx)) (relaxC_low (hv b (List.mem_cons_self ..)) H)
    rw [show c + 1 + bs.length = c + (b :: bs).length by simp only [List.length_cons]; omega] at this
    exact this
theorem openedGo_low {N : Int} {bs : List Bd} (hv : ∀ b ∈ bs, b.valid N) (r : Nat) : ∀ (c : Nat) (h h' : List Int), LowBy c h → openedGo bs r h = some h' → LowBy (c + r * bs.length) h' := by
  induction r with
  | zero => intro c h h' _ e; simp [openedGo] at e
  | succ r ih =>
    intro c h h' H e
    have H1 : LowBy (c + bs.length) (roundP bs h).1 := foldl_relaxC_low bs c (h, false) hv H
    have hm : (r + 1) * bs.length = r * bs.length + bs.length := Nat.succ_mul _ _
    simp only [openedGo] at e
    split at e
    · have := ih (c + bs.length) _ h' H1 e
      exact this.mono (by omega)
    · simp only [Option.some.injEq] at e
      rw [← e]
      exact H1.mono (by omega)
end Go.Proofs.YthjmkmjojlfejaaGreat

namespace Go.Proofs.YthjmkmjojlfejaaGreat
theorem openedP_low {N : Int} {bs : List Bd} {h : List Int} (hv : AllValid N bs) (e : openedP N bs = some h) : LowBy ((N + 1).toNat * bs.length) h := by
  have := openedGo_low hv _ 0 _ _ (lowBy_start 128) e
  simpa using this
end Go.Proofs.YthjmkmjojlfejaaGreat

namespace Go.Proofs.YthjmkmjojlfejaaGreat
theorem sumN_add (f g : Nat → Int) : ∀ n, sumN (fun i => f i + g i) n = sumN f n + sumN g n
  | 0 => rfl
  | n + 1 => by simp only [sumN, sumN_add f g n]; omega
theorem sumN_mul (c : Int) (f : Nat → Int) : ∀ n, sumN (fun i => c * f i) n = c * sumN f n
  | 0 => by simp [sumN]
  | n + 1 => by simp only [sumN, sumN_mul c f n, Int.mul_add]
theorem sumN_single {g : Int → Int} {d : Int} : ∀ {n : Nat}, 0 ≤ d → d < n → sumN (fun i => if d = (i : Int) then g i else 0) n = g d
  | 0, h0, h1 => by omega
  | n + 1, h0, h1 => by
    simp only [sumN]
    by_cases e : d = n
    · rw [if_pos e, sumN_zero (fun i hi => if_neg (by omega)), e]; omega
    · rw [if_neg e, sumN_single h0 (by omega)]; omega
theorem sumN_one {f : Nat → Int} {n k : Nat} (hk : k < n) (h : ∀ i, i < n → 0 ≤ f i) : f k ≤ sumN f n := by
  induction n with
  | zero => omega
  | succ n ih =>
    simp only [sumN]
    by_cases e : k = n
    · subst e
      have := sumN_nonneg (f := f) (n := k) fun i hi => h i (by omega)
      omega
    · have := ih (by omega) fun i hi => h i (by omega)
      have := h n (by omega)
      omega
end Go.Proofs.YthjmkmjojlfejaaGreat

namespace Go.Proofs.YthjmkmjojlfejaaGreat
theorem foldA_quiet : ∀ (l : List Arc) (s : Sh × Bool), (∀ a ∈ l, shorter s.1 a = false) → l.foldl relaxA s = s
  | [], _, _ => rfl
  | a :: l, s, h => by
    have e : relaxA s a = s := by unfold relaxA; rw [h a (List.mem_cons_self ..)]; rfl
    rw [List.foldl_cons, e]
    exact foldA_quiet l s fun x hx => h x (List.mem_cons_of_mem _ hx)
theorem relaxA_below {N : Nat} {A : List Arc} {s : Sh × Bool} (hN : N ≤ 128) (hv : AllValid N (resid A)) (hw : s.1.whole) {a : Arc} (ha : a ∈ A) : Below1 N s.1 (relaxA s a).1 ∧ (relaxA s a).1.whole := by
  unfold relaxA
  cases hs : shorter s.1 a with
  | false => exact ⟨Below1.refl _ _, hw⟩
  | true =>
    simp only [if_true]
    refine ⟨fun v h0 h1 hk => ?_, Sh.upd_whole hw a⟩
    rw [upd_k hw hN (hv _ (mem_resid ha)) h0, upd_c hw hN (hv _ (mem_resid ha)) h0]
    by_cases e : v = a.dst
    · subst e
      rw [if_pos rfl, if_pos rfl]
      have := shorter_lt hs hk
      exact ⟨rfl, by omega⟩
    · rw [if_neg e, if_neg e]; exact ⟨hk, Int.le_refl _⟩
theorem relaxA_step {N : Nat} {A : List Arc} {s : Sh × Bool} (hN : N ≤ 128) (hv : AllValid N (resid A)) (hw : s.1.whole) {a : Arc} (ha : a ∈ A) (hk : getK s.1.k a.src = true) :
    getK (relaxA s a).1.k a.dst = true ∧ getI (relaxA s a).1.c a.dst ≤ getI s.1.c a.src + a.cost := by
  have h3 : (0 : Int) ≤ a.dst := (hv _ (mem_resid ha)).2.2.1
  unfold relaxA
  cases hs : shorter s.1 a with
  | false => simpa using not_shorter hs hk
  | true =>
    simp only [if_true]
    rw [upd_k hw hN (hv _ (mem_resid ha)) h3, upd_c hw hN (hv _ (mem_resid ha)) h3]
    simp
theorem foldA_below {N : Nat} {A : List Arc} (hN : N ≤ 128) (hv : AllValid N (resid A)) : ∀ (l : List Arc) (s : Sh × Bool), (∀ a ∈ l, a ∈ A) → s.1.whole → Below1 N s.1 (l.foldl relaxA s).1 ∧ (l.foldl relaxA s).1.whole
  | [], s, _, hw => ⟨Below1.refl _ _, hw⟩
  | a :: l, s, hl, hw => by
    obtain ⟨h1, h2⟩ := relaxA_below hN hv hw (hl a (List.mem_cons_self ..))
    obtain ⟨h3, h4⟩ := foldA_below hN hv l (relaxA s a) (fun x hx => hl x (List.mem_cons_of_mem _ hx)) h2
    exact ⟨h1.trans h3, h4⟩
theorem foldA_step {N : Nat} {A : List Arc} (hN : N ≤ 128) (hv : AllValid N (resid A)) : ∀ (l : List Arc) (s : Sh × Bool), (∀ a ∈ l, a ∈ A) → s.1.whole → ∀ a ∈ l, getK s.1.k a.src = true →
    getK (l.foldl relaxA s).1.k a.dst = true ∧ getI (l.foldl relaxA s).1.c a.dst ≤ getI s.1.c a.src + a.cost
  | [], _, _, _, a, ha, _ => by cases ha
  | x :: l, s, hl, hw, a, ha, hk => by
    rw [List.foldl_cons]
    obtain ⟨h1, h2⟩ := relaxA_below hN hv hw (hl x (List.mem_cons_self ..))
    have hl' : ∀ a ∈ l, a ∈ A := fun y hy => hl y (List.mem_cons_of_mem _ hy)
    rcases List.mem_cons.1 ha with rfl | ha
    · obtain ⟨g1, g2⟩ := relaxA_step hN hv hw (hl a (List.mem_cons_self ..)) hk
      have hva := hv _ (mem_resid (hl a (List.mem_cons_self ..)))
      obtain ⟨f1, f2⟩ := (foldA_below hN hv l (relaxA s a) hl' h2).1 a.dst hva.2.2.1 hva.2.2.2.1 g1
      exact ⟨f1, by omega⟩
    · have hva := hv _ (mem_resid (hl' a ha))
      obtain ⟨f1, f2⟩ := h1 a.src hva.1 hva.2.1 hk
      obtain ⟨g1, g2⟩ := foldA_step hN hv l (relaxA s x) hl' h2 a ha f1
      exact ⟨g1, by omega⟩
theorem valid_end {N : Nat} {bs : List Bd} (hv : AllValid N bs) {a b : Int} (h0 : 0 ≤ a) (h1 : a < N) : ∀ {l : List Bd}, Walk a b l → Over bs l → 0 ≤ b ∧ b < N := by
  intro l hw ho
  rcases List.eq_nil_or_concat l with rfl | ⟨p, x, rfl⟩
  · simp only [Walk] at hw; subst hw; exact ⟨h0, h1⟩
  · rw [List.concat_eq_append] at hw ho
    obtain ⟨_, rfl⟩ := walk_last hw
    have := hv x (ho x (by simp))
    exact ⟨this.2.2.1, this.2.2.2.1⟩
theorem lowK_round {N : Nat} {A : List Arc} {Sr : Int → Prop} {k : Nat} {s : Sh} (hN : N ≤ 128) (hv : AllValid N (resid A)) (hw : s.whole) (H : LowK N A Sr k s) : LowK N A Sr (k + 1) (passA A s).1 := by
  intro a v l hsr h0 h1 hwk ho hlen
  rcases List.eq_nil_or_concat l with rfl | ⟨p, x, rfl⟩
  · obtain ⟨g1, g2⟩ := H a v [] hsr h0 h1 hwk ho (by simp)
    obtain ⟨e0, e1⟩ := valid_end hv h0 h1 hwk ho
    obtain ⟨f1, f2⟩ := (foldA_below hN hv A (s, false) (fun _ h => h) hw).1 v e0 e1 g1
    exact ⟨f1, Int.le_trans f2 g2⟩
  · rw [List.concat_eq_append] at hwk ho hlen ⊢
    obtain ⟨w1, rfl⟩ := walk_last hwk
    obtain ⟨y, hy, hyx⟩ := List.mem_map.1 (ho x (by simp))
    obtain ⟨g1, g2⟩ := H a x.src p hsr h0 h1 w1 ho.left (by simp at hlen; omega)
    subst hyx
    obtain ⟨f1, f2⟩ := foldA_step hN hv A (s, false) (fun _ h => h) hw y hy g1
    refine ⟨f1, ?_⟩
    rw [wsum_append]
    simp only [wsum, Arc.bnd] at *
    show getI (A.foldl relaxA (s, false)).1.c y.dst ≤ _
    omega
theorem lowK_quiet {N : Nat} {A : List Arc} {Sr : Int → Prop} {k : Nat} {s : Sh} (hv : AllValid N (resid A)) (hn : NoNeg (resid A)) (hk : N ≤ k + 1) (HR : ShInv N A Sr s) (HL : LowK N A Sr k s) : ∀ a ∈ A, shorter s a = false := by
  intro b hb
  cases hs : shorter s b with
  | false => rfl
  | true =>
    exfalso
    have hva := hv _ (mem_resid hb)
    obtain ⟨a, l, sx, a0, a1, hw, ho, hsum⟩ := HR.reach b.src hva.1 hva.2.1 (shorter_src hs)
    obtain ⟨l', g1, g2, g3, g4⟩ := walk_short hv hn (l ++ [b.bnd]).length (l := l ++ [b.bnd]) (Nat.le_refl _) a0 a1 (hw.trans ⟨rfl, rfl⟩) (ho.append (Over.one (mem_resid hb)))
    obtain ⟨f1, f2⟩ := HL a b.dst l' sx a0 a1 g1 g2 (by omega)
    have := shorter_lt hs f1
    rw [wsum_append, hsum] at g4
    simp only [wsum, Arc.bnd] at g4
    omega
theorem shortGo_some {N : Nat} {A : List Arc} {Sr : Int → Prop} (hN : N ≤ 128) (hv : AllValid N (resid A)) (hn : NoNeg (resid A)) : ∀ (r k : Nat) (s : Sh), 1 ≤ r → N ≤ k + r → ShInv N A Sr s → LowK N A Sr k s → ∃ s', shortGo A r s = some s'
  | 0, _, _, h1, _, _, _ => by omega
  | r + 1, k, s, _, hk, HR, HL => by
    simp only [shortGo]
    split
    · rename_i hf
      by_cases hr : r = 0
      · have := foldA_quiet A (s, false) (lowK_quiet hv hn (by omega) HR HL)
        rw [passA, this] at hf; cases hf
      · exact shortGo_some hN hv hn r (k + 1) _ (by omega) (by omega) (HR.mid hN hv (pass_mid MidA.start)) (lowK_round hN hv HR.whole HL)
    · exact ⟨_, rfl⟩
end Go.Proofs.YthjmkmjojlfejaaGreat

namespace Go.Proofs.YthjmkmjojlfejaaGreat
def costFrom (flow : List Int) : Nat → List Bd → Int
  | _, [] => 0
  | i, b :: bs => flow.getD i 0 * b.most + costFrom flow (i + 1) bs
def costOf (bs : List Bd) (flow : List Int) : Int := costFrom flow 0 bs
theorem netFrom_out (flow : List Int) (v : Int) (j : Nat) (x : Int) : ∀ (i : Nat) (bs : List Bd), j < i → netFrom (flow.set j x) v i bs = netFrom flow v i bs
  | _, [], _ => rfl
  | i, b :: bs, h => by
    have e : (flow.set j x).getD i 0 = flow.getD i 0 := by rw [getD_set_at]; exact if_neg (by omega)
    simp only [netFrom]
    rw [netFrom_out flow v j x (i + 1) bs (by omega), e]
theorem netFrom_set (flow : List Int) (v : Int) (j : Nat) (x : Int) (hj : j < flow.length) : ∀ (i : Nat) (bs : List Bd) (h : j - i < bs.length), i ≤ j →
    netFrom (flow.set j x) v i bs = netFrom flow v i bs + ((if bs[j - i].dst = v then x - flow.getD j 0 else 0) - (if bs[j - i].src = v then x - flow.getD j 0 else 0))
  | _, [], h, _ => by simp at h
  | i, b :: bs, h, hij => by
    simp only [netFrom]
    by_cases e : i = j
    · subst e
      have e2 : (flow.set i x).getD i 0 = x := by rw [getD_set_at]; exact if_pos ⟨rfl, hj⟩
      rw [netFrom_out _ _ _ _ _ _ (by omega), e2]
      simp only [Nat.sub_self, List.getElem_cons_zero]
      repeat' split
      all_goals omega
    · have h2 : j - i = (j - (i + 1)) + 1 := by omega
      have e2 : (flow.set j x).getD i 0 = flow.getD i 0 := by rw [getD_set_at]; exact if_neg (by omega)
      rw [netFrom_set flow v j x hj (i + 1) bs (by simp at h; omega) (by omega), e2]
      simp only [h2, List.getElem_cons_succ]
      omega
/-- WEAK DUALITY, as an equation: values times what comes is the flow times the differences. -/
def diffFrom (flow : List Int) (y : Int → Int) : Nat → List Bd → Int
  | _, [] => 0
  | i, b :: bs => flow.getD i 0 * (y b.dst - y b.src) + diffFrom flow y (i + 1) bs
theorem dot_net {N : Nat} (flow : List Int) (y : Int → Int) : ∀ (i : Nat) (bs : List Bd), AllValid N bs → sumN (fun v => y v * netFrom flow v i bs) N = diffFrom flow y i bs
  | _, [], _ => by simp [netFrom, diffFrom, sumN_zero]
  | i, b :: bs, hv => by
    obtain ⟨v1, v2, v3, v4, _⟩ := hv b (List.mem_cons_self ..)
    have ih := dot_net flow y (i + 1) bs fun x hx => hv x (List.mem_cons_of_mem _ hx)
    simp only [diffFrom]
    rw [← ih]
    have e : sumN (fun v => y v * netFrom flow v i (b :: bs)) N = sumN (fun v => ((if b.dst = (v : Int) then y v * flow.getD i 0 else 0) + (if b.src = (v : Int) then y v * -flow.getD i 0 else 0)) + y v * netFrom flow v (i + 1) bs) N := by
      refine sumN_congr fun v _ => ?_
      simp only [netFrom, Int.mul_add]
      congr 1
      repeat' split
      · rw [Int.sub_self, Int.mul_neg, Int.add_right_neg, Int.mul_zero]
      all_goals simp
    rw [e, sumN_add, sumN_add, sumN_single (g := fun v => y v * flow.getD i 0) v3 v4, sumN_single (g := fun v => y v * -flow.getD i 0) v1 v2]
    rw [Int.mul_sub, Int.mul_neg, Int.mul_comm (y b.dst), Int.mul_comm (y b.src)]
    omega
theorem diff_le {flow : List Int} {y : Int → Int} (hf : ∀ i, 0 ≤ flow.getD i 0) : ∀ (i : Nat) (bs : List Bd), (∀ b ∈ bs, y b.dst - y b.src ≤ b.most) → diffFrom flow y i bs ≤ costFrom flow i bs
  | _, [], _ => Int.le_refl _
  | i, b :: bs, h => by
    have := diff_le hf (i + 1) bs fun x hx => h x (List.mem_cons_of_mem _ hx)
    have := Int.mul_le_mul_of_nonneg_left (h b (List.mem_cons_self ..)) (hf i)
    simp only [diffFrom, costFrom]
    omega
theorem diff_eq {flow : List Int} {y : Int → Int} : ∀ (i : Nat) (bs : List Bd), (∀ j (h : j < bs.length), flow.getD (i + j) 0 ≠ 0 → y bs[j].dst - y bs[j].src = bs[j].most) → diffFrom flow y i bs = costFrom flow i bs
  | _, [], _ => rfl
  | i, b :: bs, h => by
    have h1 := diff_eq (flow := flow) (y := y) (i + 1) bs fun j hj hne => by
      have := h (j + 1) (by simpa using hj) (by rw [show i + (j + 1) = i + 1 + j from by omega]; exact hne)
      simpa using this
    simp only [diffFrom, costFrom, h1]
    by_cases e : flow.getD i 0 = 0
    · rw [e]; simp
    · have := h 0 (by simp) (by simpa using e)
      simp only [List.getElem_cons_zero] at this
      rw [this]
end Go.Proofs.YthjmkmjojlfejaaGreat

namespace Go.Proofs.YthjmkmjojlfejaaGreat
theorem walk_fun {g : Int → Int} {bs : List Bd} (hp : ∀ b ∈ bs, g b.dst ≤ g b.src + b.most) : ∀ {a b : Int} {l : List Bd}, Walk a b l → Over bs l → g b - g a ≤ wsum l
  | a, b, [], hw, _ => by simp only [Walk] at hw; subst hw; simp [wsum]
  | a, b, x :: l, hw, ho => by
    have h1 := walk_fun hp hw.2 ho.tail
    have h2 := hp x (ho x (List.mem_cons_self ..))
    have h3 := hw.1
    subst h3
    simp only [wsum]
    omega
theorem noNeg_of_fun {g : Int → Int} {bs : List Bd} (hp : ∀ b ∈ bs, g b.dst ≤ g b.src + b.most) : NoNeg bs := fun a l hw ho => by have := walk_fun hp hw ho; omega
theorem moveP_at {m : Int} : ∀ (l : List Arc) (flow : List Int), (l.map Arc.bd).Nodup → ∀ a ∈ l, a.bd < flow.length → (moveP m l flow).getD a.bd 0 = flow.getD a.bd 0 + sgn m a
  | [], _, _, a, ha, _ => by cases ha
  | x :: l, flow, hn, a, ha, hl => by
    rw [List.map_cons, List.nodup_cons] at hn
    show (moveP m l (move1 m flow x)).getD a.bd 0 = _
    rcases List.mem_cons.1 ha with rfl | ha
    · rw [moveP_other l _ (fun y hy e => hn.1 (List.mem_map.2 ⟨y, hy, e⟩)), move1_get, if_pos ⟨rfl, hl⟩]
    · rw [moveP_at l _ hn.2 a ha (by rw [move1_len]; exact hl), move1_get, if_neg (fun q => hn.1 (List.mem_map.2 ⟨a, ha, q.1.symm⟩))]
      omega
/-- Nothing negative comes of a push. -/
theorem push_noNeg {N : Nat} {bs : List Bd} {flow : List Int} {p : Nat} {s : Sh} {n : Nat} {v : Int} {l : List Arc} {m : Int} (hN : N ≤ 128) (_hp : p < N) (hv : AllValid N bs) (hn : NoNeg (resid (arcsP bs flow)))
    (HR : ShInv N (arcsP bs flow) (fun v => v = (p : Int)) s) (HB : ByInv N (arcsP bs flow) p s) (hfix : ∀ a ∈ arcsP bs flow, shorter s a = false) (hw : Way N (arcsP bs flow) p s n v l) (_h0 : ∀ j, 0 ≤ flow.getD j 0) :
    NoNeg (resid (arcsP bs (moveP m l flow))) := by
  have hva := arcs_valid flow hv
  obtain ⟨h, hh⟩ := openedP_some hN hva hn
  have hpot := openedP_pot hh
  have hlow := openedP_low hva hh
  obtain ⟨c, hc⟩ : ∃ c : Nat, c = ((N : Int) + 1).toNat * (resid (arcsP bs flow)).length := ⟨_, rfl⟩
  rw [← hc] at hlow
  refine noNeg_of_fun (g := fun v => if getK s.k v = true then getI s.c v else getI h v + (129000000 + (c : Int) * 1000000)) ?_
  have key : ∀ a ∈ arcsP bs flow, (if getK s.k a.dst = true then getI s.c a.dst else getI h a.dst + (129000000 + (c : Int) * 1000000)) ≤ (if getK s.k a.src = true then getI s.c a.src else getI h a.src + (129000000 + (c : Int) * 1000000)) + a.cost := by
    intro a ha
    obtain ⟨v1, v2, v3, v4, v5, v6⟩ := hva _ (mem_resid ha)
    simp only [Arc.bnd] at v1 v2 v3 v4 v5 v6
    have hp2 := hpot _ (mem_resid ha)
    simp only [Arc.bnd] at hp2
    by_cases hs : getK s.k a.src = true
    · obtain ⟨k1, k2⟩ := not_shorter (hfix a ha) hs
      rw [if_pos k1, if_pos hs]; exact k2
    · rw [if_neg hs]
      by_cases hd : getK s.k a.dst = true
      · rw [if_pos hd]
        have b1 := HR.bounds hN hva hn v3 v4 hd
        have b2 := hlow a.src.toNat
        have b3 : getI h a.src = h.getD a.src.toNat 0 := rfl
        omega
      · rw [if_neg hd]; omega
  intro b hb
  obtain ⟨a, ha, rfl⟩ := List.mem_map.1 hb
  by_cases hold : a ∈ arcsP bs flow
  · exact key a hold
  · -- a new way back
    obtain ⟨j, hj, q | ⟨q, hpos⟩⟩ := mem_arcsP.1 ha
    · exact absurd (mem_arcsP.2 ⟨j, hj, .inl q⟩) hold
    · have hz : ¬ 0 < flow.getD j 0 := fun q2 => hold (mem_arcsP.2 ⟨j, hj, .inr ⟨q, q2⟩⟩)
      have hx : ∃ x ∈ l, x.bd = j := by
        apply Classical.byContradiction
        intro hno
        rw [moveP_other l flow fun x hx e => hno ⟨x, hx, e⟩] at hpos
        exact hz hpos
      obtain ⟨x, hxl, rfl⟩ := hx
      obtain ⟨t1, t2, t3, t4⟩ := way_tight HB hw x hxl
      obtain ⟨_, e | ⟨_, e2⟩⟩ := arcs_at t1
      · rw [q]
        rw [e] at t2 t3 t4
        simp only [fwdArc] at t2 t3 t4
        show (if getK s.k bs[x.bd].src = true then getI s.c bs[x.bd].src else getI h bs[x.bd].src + (129000000 + (c : Int) * 1000000)) ≤ (if getK s.k bs[x.bd].dst = true then getI s.c bs[x.bd].dst else getI h bs[x.bd].dst + (129000000 + (c : Int) * 1000000)) + -bs[x.bd].most
        rw [if_pos t2, if_pos t3]
        omega
      · exact absurd e2 hz
end Go.Proofs.YthjmkmjojlfejaaGreat

namespace Go.Proofs.YthjmkmjojlfejaaGreat
theorem net_move1 {bs : List Bd} {flow : List Int} {a : Arc} {m : Int} (ha : ∃ hj : a.bd < bs.length, a = fwdArc a.bd bs[a.bd] ∨ a = bwdArc a.bd bs[a.bd]) (hl : flow.length = bs.length) (v : Int) :
    netOf bs (move1 m flow a) v = netOf bs flow v + ((if a.dst = v then m else 0) - (if a.src = v then m else 0)) := by
  obtain ⟨hj, h⟩ := ha
  obtain ⟨x, hx⟩ : ∃ x, x = (if a.back then flow.getD a.bd 0 - m else flow.getD a.bd 0 + m) := ⟨_, rfl⟩
  have e := netFrom_set flow v a.bd x (by omega) 0 bs (by omega) (Nat.zero_le _)
  simp only [Nat.sub_zero] at e
  unfold netOf move1
  rw [← hx, e]
  clear e
  generalize bs[a.bd] = b at h ⊢
  rcases h with h | h
  · have e1 : a.back = false := by rw [h]; rfl
    have e2 : a.dst = b.dst := by rw [h]; rfl
    have e3 : a.src = b.src := by rw [h]; rfl
    rw [e1] at hx
    simp only [Bool.false_eq_true, if_false] at hx
    rw [e2, e3, show x - flow.getD a.bd 0 = m by omega]
  · have e1 : a.back = true := by rw [h]; rfl
    have e2 : a.dst = b.src := by rw [h]; rfl
    have e3 : a.src = b.dst := by rw [h]; rfl
    rw [e1] at hx
    simp only [if_true] at hx
    rw [e2, e3, show x - flow.getD a.bd 0 = -m by omega]
    split <;> split <;> omega
theorem net_way {N : Nat} {bs : List Bd} {flow0 : List Int} {p : Int} {s : Sh} {m : Int} {n : Nat} {x : Int} {l : List Arc} (h : Way N (arcsP bs flow0) p s n x l) (v : Int) :
    ∀ flow : List Int, flow.length = bs.length → netOf bs (moveP m l flow) v = netOf bs flow v + ((if x = v then m else 0) - (if p = v then m else 0)) := by
  induction h with
  | nil => intro flow _; show netOf bs flow v = _; omega
  | @cons n x l hvp h0 h1 hk hA hd ht hup hw ih =>
    intro flow hl
    show netOf bs (moveP m l (move1 m flow (getA s.by_ x))) v = _
    rw [ih _ (by rw [move1_len]; exact hl), net_move1 (by obtain ⟨hj, q | ⟨q, _⟩⟩ := arcs_at hA; exact ⟨hj, .inl q⟩; exact ⟨hj, .inr q⟩) hl, hd]
    omega
theorem find_range {N : Nat} {P : Nat → Bool} {q : Nat} (h : (List.range N).find? P = some q) : q < N ∧ P q = true := ⟨List.mem_range.1 (List.mem_of_find?_eq_some h), List.find?_some h⟩
theorem find_none {N : Nat} {P : Nat → Bool} (h : (List.range N).find? P = none) : ∀ q, q < N → P q = false := fun q hq => by
  have := List.find?_eq_none.1 h q (List.mem_range.2 hq)
  simpa using this
theorem getI_nat (l : List Int) (n : Nat) : getI l (n : Int) = l.getD n 0 := rfl
theorem push_total {N : Nat} {bs : List Bd} {F : Fl} {p : Nat} (hN : N ≤ 128) (hv : AllValid N bs) (hF : FlOk N bs F) (h0 : ∀ j, 0 ≤ F.flow.getD j 0) (hp : p < N) (hneed : F.need.getD p 0 < 0) :
    pushP N bs F p = some none ∨ ∃ F' q m, pushP N bs F p = some (some F') ∧ Pushed N bs F p F' q m := by
  have hva := arcs_valid F.flow hv
  obtain ⟨HR0, HL0⟩ := shOne_inv (A := arcsP bs F.flow) hN hp
  obtain ⟨s, hs⟩ := shortGo_some hN hva hF.neg 1000 0 (shOne p) (by omega) (by omega) HR0 HL0
  have hfix := short_fix 1000 _ _ hs
  have hmid := short_mid (s0 := shOne p) 1000 _ _ MidA.start hs
  have HR := HR0.mid hN hva hmid
  have HB := (ByInv.start (A := arcsP bs F.flow) hp hN).mid hN hva hF.neg (by omega) HR0 hmid
  unfold pushP
  rw [hs]
  simp only
  cases hq : firstQ N s F.need with
  | none => exact .inl rfl
  | some q =>
    right
    obtain ⟨q1, q2⟩ := find_range hq
    unfold wants at q2
    simp only [Bool.and_eq_true, decide_eq_true_eq] at q2
    obtain ⟨q2, q3⟩ := q2
    rw [getI_nat] at q3
    obtain ⟨n, hup⟩ := HB.up q (by omega) (by omega) q2
    have hdep := HB.depth hva (by omega) (by omega) q2 hup
    obtain ⟨l, hl, hw⟩ := way_of hva HB hfix n q hup (by omega) (by omega) q2 1000 (by omega)
    simp only [hl]
    obtain ⟨m, hm⟩ : ∃ m, m = muchP F.flow l (min (-getI F.need p) (getI F.need q)) := ⟨_, rfl⟩
    rw [← hm]
    have hle := much_le F.flow l (min (-getI F.need p) (getI F.need q))
    have hti := way_tight HB hw
    have hpos := much_pos F.flow l (min (-getI F.need p) (getI F.need q)) (by rw [getI_nat, getI_nat]; omega) (fun a ha hb => arcs_back (hti a ha).1 hb)
    rw [← hm] at hle hpos
    rw [getI_nat, getI_nat] at hle
    have hnd := way_bds hw
    refine ⟨_, q, m, rfl, ?_⟩
    refine { hq := q1, ne := ?_, qpos := q3, m1 := by omega, mp := by omega, mq := by omega, need := rfl, len := by rw [moveP_len]; exact hF.fl, fl0 := ?_, fl1 := ?_, neg := push_noNeg hN hp hv hF.neg HR HB hfix hw h0, net := fun v => net_way hw v F.flow hF.fl }
    · intro e; subst e; omega
    · intro j
      by_cases hj : ∃ a ∈ l, a.bd = j
      · obtain ⟨a, ha, rfl⟩ := hj
        obtain ⟨hb, _⟩ := arcs_at (hti a ha).1
        simp only
        rw [moveP_at l F.flow hnd a ha (by rw [hF.fl]; exact hb)]
        unfold sgn
        split
        · rename_i hbk; have := hle.2 a ha hbk; omega
        · have := h0 a.bd; omega
      · simp only
        rw [moveP_other l F.flow fun a ha e => hj ⟨a, ha, e⟩]; exact h0 j
    · intro j
      by_cases hj : ∃ a ∈ l, a.bd = j
      · obtain ⟨a, ha, rfl⟩ := hj
        obtain ⟨hb, _⟩ := arcs_at (hti a ha).1
        simp only
        rw [moveP_at l F.flow hnd a ha (by rw [hF.fl]; exact hb)]
        unfold sgn
        split <;> omega
      · simp only
        rw [moveP_other l F.flow fun a ha e => hj ⟨a, ha, e⟩]; omega
/-- Best ends. -/
theorem best_runs {N : Nat} {bs : List Bd} {w : List Int} {C : Int} (hN : N ≤ 128) (hC : C ≤ 1000000000) (hv : AllValid N bs) : ∀ (k : Nat) (F : Fl), BInv N bs w C F → lack N F.need ≤ k →
    ∃ R, Runs N bs F R ∧ ∀ F', R = some F' → BInv N bs w C F' ∧ firstP N F'.need = none := by
  intro k
  induction k with
  | zero =>
    intro F h hk
    have hz := lack_nonneg N F.need
    have hf : firstP N F.need = none := by
      refine List.find?_eq_none.2 fun p hp => ?_
      have hp' := List.mem_range.1 hp
      have := sumN_one (f := fun v => max 0 (-F.need.getD v 0)) hp' (fun i _ => by omega)
      unfold lack at hk
      have hg := getI_nat F.need p
      simp only [decide_eq_true_eq]
      rw [hg]
      omega
    exact ⟨some F, .done (h.ok hC) hf, fun F' e => by cases e; exact ⟨h, hf⟩⟩
  | succ k ih =>
    intro F h hk
    cases hf : firstP N F.need with
    | none => exact ⟨some F, .done (h.ok hC) hf, fun F' e => by cases e; exact ⟨h, hf⟩⟩
    | some p =>
      obtain ⟨p1, p2⟩ := find_range hf
      simp only [decide_eq_true_eq] at p2
      rw [getI_nat] at p2
      rcases push_total hN hv (h.ok hC) h.fl0 p1 p2 with e | ⟨F', q, m, e, P⟩
      · exact ⟨none, .stuck (h.ok hC) hf e, fun F' e => by cases e⟩
      · obtain ⟨h', hl⟩ := h.push hN p1 P
        have m1 := P.m1
        obtain ⟨R, hR, hL⟩ := ih F' h' (by omega)
        exact ⟨R, .step (h.ok hC) hf e hR, hL⟩
end Go.Proofs.YthjmkmjojlfejaaGreat

namespace Go.Proofs.YthjmkmjojlfejaaGreat
theorem sum_shift (g : Nat → Int) : ∀ n, sumN g (n + 1) = g 0 + sumN (fun i => g (i + 1)) n
  | 0 => by simp [sumN]
  | n + 1 => by
    have := sum_shift g n
    simp only [sumN] at this ⊢
    omega
theorem rep_getD (n j : Nat) : (List.replicate n (0 : Int)).getD j 0 = 0 := by
  simp only [List.getD_eq_getElem?_getD, List.getElem?_replicate]; split <;> rfl
theorem resid_zero (n : Nat) : ∀ (i : Nat) (bs : List Bd), ∀ a ∈ arcsFrom (List.replicate n 0) i bs, ∃ b ∈ bs, a.src = b.src ∧ a.dst = b.dst ∧ a.cost = b.most
  | _, [], a, h => by cases h
  | i, b :: bs, a, h => by
    simp only [arcsFrom, arcsAt, rep_getD, Int.lt_irrefl, if_false, List.cons_append, List.nil_append, List.mem_cons] at h
    rcases h with rfl | h
    · exact ⟨b, List.mem_cons_self .., rfl, rfl, rfl⟩
    · obtain ⟨c, hc, e⟩ := resid_zero n (i + 1) bs a h
      exact ⟨c, List.mem_cons_of_mem _ hc, e⟩
theorem noNeg_start {N : Nat} {bs : List Bd} (hN : N ≤ 128) (hv : AllValid N bs) (h : NoNeg bs) (n : Nat) : NoNeg (resid (arcsP bs (List.replicate n 0))) := by
  obtain ⟨t, ht⟩ := openedP_some hN hv h
  have hp := openedP_pot ht
  refine noNeg_of_fun (g := getI t) fun b hb => ?_
  obtain ⟨a, ha, rfl⟩ := List.mem_map.1 hb
  obtain ⟨c, hc, e1, e2, e3⟩ := resid_zero n 0 bs a ha
  have := hp c hc
  simp only [Arc.bnd]
  rw [e1, e2, e3]
  omega
theorem netFrom_zero (n : Nat) (v : Int) : ∀ (i : Nat) (bs : List Bd), netFrom (List.replicate n 0) v i bs = 0
  | _, [] => rfl
  | i, b :: bs => by simp only [netFrom, rep_getD, netFrom_zero n v (i + 1) bs, ite_self]; rfl
theorem start_inv {N : Nat} {bs : List Bd} {w : List Int} (h1 : 1 ≤ N) (hN : N ≤ 128) (hv : AllValid N bs) (h : NoNeg bs) (hw : ∀ v, -1000000 ≤ w.getD v 0 ∧ w.getD v 0 ≤ 1000000) : BInv N bs w 256000000 (start N bs w) := by
  have hg := needTo_get w (N - 1) (by omega)
  have hs := sumN_bd (f := fun i => w.getD (i + 1) 0) (c := 1000000) (n := N - 1) fun i _ => hw (i + 1)
  have hnb : ∀ v, -127000000 ≤ (needTo w (N - 1)).getD v 0 ∧ (needTo w (N - 1)).getD v 0 ≤ 127000000 := by
    intro v
    rw [hg v]
    have := hw v
    split
    · omega
    · split <;> omega
  have hlack : lack N (needTo w (N - 1)) ≤ 254000000 := by
    unfold lack
    obtain ⟨M, rfl⟩ : ∃ M, N = M + 1 := ⟨N - 1, by omega⟩
    rw [sum_shift]
    have a := hnb 0
    have b := sumN_bd (f := fun i => max 0 (-(needTo w (M + 1 - 1)).getD (i + 1) 0)) (c := 1000000) (n := M) fun i hi => by
      rw [hg (i + 1), if_neg (by omega), if_pos (by omega)]
      have := hw (i + 1)
      omega
    omega
  refine { neg := noNeg_start hN hv h _, fl := by simp [start], fl0 := fun j => ?_, tot := fun j => ?_, nl := needTo_len w _, nb := fun v => ?_, net := fun v hv1 hvN => ?_, zero := ?_ }
  · show 0 ≤ (List.replicate _ (0 : Int)).getD j 0; rw [rep_getD]; omega
  · show (List.replicate _ (0 : Int)).getD j 0 + lack N (needTo w (N - 1)) ≤ _; rw [rep_getD]; omega
  · have := hnb v; show _ ≤ (needTo w (N - 1)).getD v 0 ∧ (needTo w (N - 1)).getD v 0 ≤ _; omega
  · show netOf bs (List.replicate _ 0) v + (needTo w (N - 1)).getD v 0 = _
    unfold netOf
    rw [netFrom_zero, hg v, if_neg (by omega), if_pos (by omega)]; omega
  · show sumN (fun v => (needTo w (N - 1)).getD v 0) N = 0
    obtain ⟨M, rfl⟩ : ∃ M, N = M + 1 := ⟨N - 1, by omega⟩
    have e2 : sumN (fun i => (needTo w (M + 1 - 1)).getD (i + 1) 0) M = sumN (fun i => w.getD (i + 1) 0) M := sumN_congr fun i hi => by rw [hg (i + 1), if_neg (by omega), if_pos (by omega)]
    rw [sum_shift, hg 0, if_pos rfl, e2]
    simp only [Nat.add_sub_cancel]
    omega
/-- What best ends with. -/
structure BestOk (N : Nat) (bs : List Bd) (w y flow : List Int) : Prop where
  yl : y.length = N
  y0 : y.getD 0 0 = 0
  yb : ∀ v, -256000000 ≤ y.getD v 0 ∧ y.getD v 0 ≤ 256000000
  kept : ∀ b ∈ bs, getI y b.dst - getI y b.src ≤ b.most
  fl : flow.length = bs.length
  fb : ∀ j, 0 ≤ flow.getD j 0 ∧ flow.getD j 0 ≤ 256000000
  net : ∀ v : Nat, 1 ≤ v → v < N → netOf bs flow v = w.getD v 0
  cost : costOf bs flow = sumN (fun v => w.getD v 0 * y.getD v 0) N
theorem best_end {N : Nat} {bs : List Bd} {w : List Int} {F : Fl} (h1 : 1 ≤ N) (hN : N ≤ 128) (hv : AllValid N bs) (h : BInv N bs w 256000000 F) (hf : firstP N F.need = none) :
    ∃ s, shortGo (arcsP bs F.flow) 1000 (shAll N) = some s ∧ BestOk N bs w (valsOf N s) F.flow := by
  have hva := arcs_valid F.flow hv
  obtain ⟨HR0, HL0⟩ := shAll_inv (A := arcsP bs F.flow) hN
  obtain ⟨s, hs⟩ := shortGo_some hN hva h.neg 1000 0 (shAll N) (by omega) (by omega) HR0 HL0
  have hfix := short_fix 1000 _ _ hs
  have hmid := short_mid (s0 := shAll N) 1000 _ _ MidA.start hs
  have HR := HR0.mid hN hva hmid
  -- all points are known
  have hkn : ∀ v : Int, 0 ≤ v → v < N → getK s.k v = true := by
    have h0 : ∀ v : Int, 0 ≤ v → v < N → getK (shAll N).k v = true := by
      intro v a b
      exact (HL0 v v [] ⟨a, b⟩ a b rfl Over.nil (Nat.le_refl _)).1
    have : ∀ t, MidA (arcsP bs F.flow) (shAll N) t → (∀ v : Int, 0 ≤ v → v < N → getK t.k v = true) ∧ t.whole := by
      intro t ht
      induction ht with
      | start => exact ⟨h0, HR0.whole⟩
      | @step t a ht ha hsh ih =>
        refine ⟨fun v a1 a2 => ?_, Sh.upd_whole ih.2 a⟩
        rw [upd_k ih.2 hN (hva _ (mem_resid ha)) a1]
        split
        · rfl
        · exact ih.1 v a1 a2
    exact (this s hmid).1
  have hb := fun (v : Int) a b => HR.bounds hN hva h.neg (v := v) a b (hkn v a b)
  have hneed : ∀ v, v < N → F.need.getD v 0 = 0 := by
    have hnn : ∀ v, v < N → 0 ≤ F.need.getD v 0 := by
      intro v hvN
      have := find_none hf v hvN
      simp only [decide_eq_false_iff_not] at this
      rw [getI_nat] at this
      omega
    intro v hvN
    have := sumN_one (f := fun v => F.need.getD v 0) hvN hnn
    have := h.zero
    have := hnn v hvN
    omega
  have hy : ∀ v : Int, 0 ≤ v → v < N → getI (valsOf N s) v = getI s.c v - getI s.c 0 := by
    intro v a b
    obtain ⟨n, rfl⟩ := Int.eq_ofNat_of_zero_le a
    rw [getI_nat, vals_get N s n (by omega)]
  have harc : ∀ a ∈ arcsP bs F.flow, getI s.c a.dst ≤ getI s.c a.src + a.cost := by
    intro a ha
    obtain ⟨v1, v2, _⟩ := hva _ (mem_resid ha)
    exact (not_shorter (hfix a ha) (hkn _ v1 v2)).2
  refine ⟨s, hs, { yl := by simp [valsOf], y0 := ?_, yb := fun v => ?_, kept := fun b hbm => ?_, fl := h.fl, fb := fun j => ?_, net := fun v a b => ?_, cost := ?_ }⟩
  · rw [vals_get N s 0 (by omega)]; simp
  · by_cases hvN : v < N
    · rw [vals_get N s v hvN]
      have a := hb v (by omega) (by omega)
      have b := hb 0 (by omega) (by omega)
      omega
    · rw [List.getD_eq_getElem?_getD, List.getElem?_eq_none (by simp [valsOf]; omega)]; simp
  · obtain ⟨v1, v2, v3, v4, _⟩ := hv b hbm
    obtain ⟨j, hj, rfl⟩ := List.getElem_of_mem hbm
    have := harc _ (mem_arcsP.2 ⟨j, hj, .inl rfl⟩)
    simp only [fwdArc] at this
    rw [hy _ v1 v2, hy _ v3 v4]
    omega
  · have a := h.tot j
    have b := lack_nonneg N F.need
    exact ⟨h.fl0 j, by omega⟩
  · have := h.net v a b
    rw [hneed v b] at this
    omega
  · have e1 := dot_net (N := N) F.flow (getI (valsOf N s)) 0 bs hv
    have e2 := diff_eq (flow := F.flow) (y := getI (valsOf N s)) 0 bs fun j hj hne => by
      rw [Nat.zero_add] at hne
      have hpos : 0 < F.flow.getD j 0 := by have := h.fl0 j; omega
      obtain ⟨v1, v2, v3, v4, _⟩ := hv _ (List.getElem_mem hj)
      have a := harc _ (mem_arcsP.2 ⟨j, hj, .inl rfl⟩)
      have b := harc _ (mem_arcsP.2 ⟨j, hj, .inr ⟨rfl, hpos⟩⟩)
      simp only [fwdArc, bwdArc] at a b
      rw [hy _ v1 v2, hy _ v3 v4]
      omega
    unfold costOf
    rw [← e2, ← e1]
    obtain ⟨M, rfl⟩ : ∃ M, N = M + 1 := ⟨N - 1, by omega⟩
    rw [sum_shift, sum_shift]
    have z : getI (valsOf (M + 1) s) ((0 : Nat) : Int) = 0 := by rw [hy _ (by omega) (by omega)]; simp
    have z2 : (valsOf (M + 1) s).getD 0 0 = 0 := by rw [vals_get _ _ _ (by omega)]; simp
    rw [z, z2, Int.zero_mul, Int.mul_zero]
    congr 1
    refine sumN_congr fun i hi => ?_
    have := h.net (i + 1) (by omega) (by omega)
    rw [hneed (i + 1) (by omega), Int.add_zero] at this
    show getI (valsOf (M + 1) s) ((i + 1 : Nat) : Int) * netOf bs F.flow ((i + 1 : Nat) : Int) = _
    rw [this, getI_nat, Int.mul_comm]
end Go.Proofs.YthjmkmjojlfejaaGreat

namespace Go.Proofs.YthjmkmjojlfejaaGreat
theorem flB_of {N : Nat} {bs : List Bd} {F : Fl} (hN : N ≤ 128) (hv : AllValid N bs) (h : FlOk N bs F) : flB N bs F = true := by
  unfold flB
  simp only [Bool.and_eq_true, beq_iff_eq, List.all_eq_true, decide_eq_true_eq]
  exact ⟨⟨⟨⟨(openedP_iff hN (arcs_valid F.flow hv)).2 h.neg, h.fl⟩, h.fb⟩, h.nl⟩, h.nb⟩
theorem runsB_of {N : Nat} {bs : List Bd} (hN : N ≤ 128) (hv : AllValid N bs) {F : Fl} {R : Option Fl} (h : Runs N bs F R) : ∃ f, runsB N bs f F = some R := by
  induction h with
  | done ok e => exact ⟨1, by unfold runsB; rw [if_neg (by rw [flB_of hN hv ok]; simp), e]⟩
  | stuck ok e e2 => exact ⟨1, by unfold runsB; rw [if_neg (by rw [flB_of hN hv ok]; simp), e]; simp only [e2]⟩
  | step ok e e2 _ ih =>
    obtain ⟨f, hf⟩ := ih
    exact ⟨f + 1, by unfold runsB; rw [if_neg (by rw [flB_of hN hv ok]; simp), e]; simp only [e2]; exact hf⟩
/-- Every system without a negative circle has a run. -/
theorem best_total {N : Nat} {bs : List Bd} {w : List Int} (h1 : 1 ≤ N) (hN : N ≤ 128) (hv : AllValid N bs) (h : NoNeg bs) (hw : ∀ v, -1000000 ≤ w.getD v 0 ∧ w.getD v 0 ≤ 1000000) (_hl : w.length = N) :
    ∃ f R, BestRun N bs w f R ∧ ∀ r, R = some r → BestOk N bs w r.y r.flow ∧ r.n = formP w r.y := by
  have hi := start_inv h1 hN hv h hw
  obtain ⟨R0, hR, hL⟩ := best_runs hN (by omega) hv (lack N (start N bs w).need).toNat (start N bs w) hi (by omega)
  obtain ⟨f, hf⟩ := runsB_of hN hv hR
  cases R0 with
  | none => exact ⟨f, none, ⟨none, hf, .inl ⟨rfl, rfl⟩⟩, fun r e => by cases e⟩
  | some F =>
    obtain ⟨hF, hfp⟩ := hL F rfl
    obtain ⟨s, hs, hb⟩ := best_end h1 hN hv hF hfp
    exact ⟨f, some ⟨formP w (valsOf N s), valsOf N s, F.flow⟩, ⟨some F, hf, .inr ⟨F, s, rfl, hs, rfl⟩⟩, fun r e => by cases e; exact ⟨hb, rfl⟩⟩
end Go.Proofs.YthjmkmjojlfejaaGreat

namespace Go.Proofs.YthjmkmjojlfejaaGreat
theorem mid_known {A : List Arc} {s0 s : Sh} (h : MidA A s0 s) {v : Int} (hk : getK s0.k v = true) : getK s.k v = true := by
  induction h with
  | start => exact hk
  | step _ _ _ ih =>
    show getK (List.set _ _ true) v = true
    rw [getK_set]
    split
    · rfl
    · exact ih
theorem shOne_known {p : Nat} (hp : p < 128) : getK (shOne p).k p = true := by
  show getK ((List.replicate 128 false).set (p : Int).toNat true) (p : Int) = true
  rw [getK_set, if_pos ⟨rfl, by simpa using hp⟩]
theorem diff_zero {flow : List Int} {y : Int → Int} : ∀ (i : Nat) (bs : List Bd), (∀ j (h : j < bs.length), flow.getD (i + j) 0 * (y bs[j].dst - y bs[j].src) = 0) → diffFrom flow y i bs = 0
  | _, [], _ => rfl
  | i, b :: bs, h => by
    have h1 := diff_zero (flow := flow) (y := y) (i + 1) bs fun j hj => by
      have := h (j + 1) (by simpa using hj)
      rw [show i + (j + 1) = i + 1 + j from by omega] at this
      simpa using this
    have h0 := h 0 (by simp)
    simp only [Nat.add_zero, List.getElem_cons_zero] at h0
    simp only [diffFrom, h1, h0]
    rfl
theorem diff_ge {flow : List Int} {y : Int → Int} : ∀ (i : Nat) (bs : List Bd), (∀ j (h : j < bs.length), 0 ≤ flow.getD (i + j) 0 * (y bs[j].dst - y bs[j].src)) → 0 ≤ diffFrom flow y i bs
  | _, [], _ => Int.le_refl _
  | i, b :: bs, h => by
    have h1 := diff_ge (flow := flow) (y := y) (i + 1) bs fun j hj => by
      have := h (j + 1) (by simpa using hj)
      rw [show i + (j + 1) = i + 1 + j from by omega] at this
      simpa using this
    have h0 := h 0 (by simp)
    simp only [Nat.add_zero, List.getElem_cons_zero] at h0
    simp only [diffFrom]
    omega
/-- Where nothing can be pushed, no flow carries the weights. -/
theorem stuck_none {N : Nat} {bs : List Bd} {w : List Int} {C : Int} {F : Fl} {p : Nat} (hN : N ≤ 128) (hv : AllValid N bs) (h : BInv N bs w C F) (hp : firstP N F.need = some p) (hs : pushP N bs F p = some none)
    {fl : List Int} (hfl : ∀ j, 0 ≤ fl.getD j 0) (hnet : ∀ v : Nat, 1 ≤ v → v < N → netOf bs fl v = w.getD v 0) : False := by
  obtain ⟨hp1, hp2⟩ := find_range hp
  simp only [decide_eq_true_eq] at hp2
  rw [getI_nat] at hp2
  unfold pushP at hs
  cases hsh : shortGo (arcsP bs F.flow) 1000 (shOne p) with
  | none => rw [hsh] at hs; cases hs
  | some s =>
    rw [hsh] at hs
    simp only at hs
    cases hq : firstQ N s F.need with
    | some q =>
      rw [hq] at hs
      simp only at hs
      split at hs <;> cases hs
    | none =>
      have hfix := short_fix 1000 _ _ hsh
      have hmid := short_mid (s0 := shOne p) 1000 _ _ MidA.start hsh
      have hkp : getK s.k (p : Nat) = true := mid_known hmid (shOne_known (by omega))
      have hno : ∀ q, q < N → getK s.k (q : Nat) = true → F.need.getD q 0 ≤ 0 := by
        intro q hqN hk
        have := find_none hq q hqN
        unfold wants at this
        rw [hk, Bool.true_and, decide_eq_false_iff_not, getI_nat] at this
        omega
      have hfw : ∀ j (hj : j < bs.length), getK s.k bs[j].src = true → getK s.k bs[j].dst = true := by
        intro j hj hk
        exact (not_shorter (hfix _ (mem_arcsP.2 ⟨j, hj, .inl rfl⟩)) hk).1
      have hbw : ∀ j (hj : j < bs.length), 0 < F.flow.getD j 0 → getK s.k bs[j].dst = true → getK s.k bs[j].src = true := by
        intro j hj hpos hk
        exact (not_shorter (hfix _ (mem_arcsP.2 ⟨j, hj, .inr ⟨rfl, hpos⟩⟩)) hk).1
      obtain ⟨X, hX⟩ : ∃ X : Int → Int, X = fun v => if getK s.k v = true then 1 else 0 := ⟨_, rfl⟩
      have d1 := dot_net (N := N) F.flow X 0 bs hv
      have d2 := dot_net (N := N) fl X 0 bs hv
      have d3 := dot_net (N := N) F.flow (fun _ => 1) 0 bs hv
      have d4 := dot_net (N := N) fl (fun _ => 1) 0 bs hv
      have z1 : diffFrom F.flow X 0 bs = 0 := by
        refine diff_zero 0 bs fun j hj => ?_
        rw [Nat.zero_add, hX]
        simp only
        by_cases h1 : getK s.k bs[j].src = true
        · rw [if_pos h1, if_pos (hfw j hj h1)]; simp
        · rw [if_neg h1]
          by_cases h2 : getK s.k bs[j].dst = true
          · have : F.flow.getD j 0 = 0 := by
              have := h.fl0 j
              apply Classical.byContradiction
              intro hne
              exact h1 (hbw j hj (by omega) h2)
            rw [this]; simp
          · rw [if_neg h2]; simp
      have z2 : 0 ≤ diffFrom fl X 0 bs := by
        refine diff_ge 0 bs fun j hj => ?_
        rw [Nat.zero_add, hX]
        simp only
        refine Int.mul_nonneg (hfl j) ?_
        by_cases h1 : getK s.k bs[j].src = true
        · rw [if_pos h1, if_pos (hfw j hj h1)]; simp
        · rw [if_neg h1]; split <;> omega
      have z3 : diffFrom F.flow (fun _ => 1) 0 bs = 0 := diff_zero 0 bs fun j hj => by simp
      have z4 : diffFrom fl (fun _ => 1) 0 bs = 0 := diff_zero 0 bs fun j hj => by simp
      rw [z1] at d1
      rw [z3] at d3
      rw [z4] at d4
      rw [← d2] at z2
      simp only [Int.one_mul] at d3 d4
      have hzero := h.zero
      -- every point
      have hall : ∀ v, v < N → netOf bs fl (v : Nat) = netOf bs F.flow (v : Nat) + F.need.getD v 0 := by
        intro v hvN
        by_cases e : v = 0
        · subst e
          obtain ⟨M, rfl⟩ : ∃ M, N = M + 1 := ⟨N - 1, by omega⟩
          have s1 := sum_shift (fun v => netFrom fl (v : Nat) 0 bs) M
          have s2 := sum_shift (fun v => netFrom F.flow (v : Nat) 0 bs) M
          have s3 := sum_shift (fun v => F.need.getD v 0) M
          have e4 : sumN (fun i => netFrom fl ((i + 1 : Nat) : Int) 0 bs) M = sumN (fun i => netFrom F.flow ((i + 1 : Nat) : Int) 0 bs + F.need.getD (i + 1) 0) M := by
            refine sumN_congr fun i hi => ?_
            have a := hnet (i + 1) (by omega) (by omega)
            have b := h.net (i + 1) (by omega) (by omega)
            unfold netOf at a b
            omega
          rw [sumN_add] at e4
          unfold netOf
          omega
        · have a := hnet v (by omega) hvN
          have b := h.net v (by omega) hvN
          omega
      have s5 : sumN (fun v => X (v : Nat) * netFrom fl (v : Nat) 0 bs) N = sumN (fun v => X (v : Nat) * netFrom F.flow (v : Nat) 0 bs + X (v : Nat) * F.need.getD v 0) N := by
        refine sumN_congr fun v hvN => ?_
        have := hall v hvN
        unfold netOf at this
        rw [this, Int.mul_add]
      rw [sumN_add, d1] at s5
      have s6 : -F.need.getD p 0 ≤ sumN (fun v => -(X (v : Nat) * F.need.getD v 0)) N := by
        have := sumN_one (f := fun v => -(X (v : Nat) * F.need.getD v 0)) hp1 (fun q hqN => by
          rw [hX]
          simp only
          by_cases hk : getK s.k (q : Nat) = true
          · rw [if_pos hk]; have := hno q hqN hk; omega
          · rw [if_neg hk]; simp)
        refine Int.le_trans (Int.le_of_eq ?_) this
        rw [hX]
        simp only
        rw [if_pos hkp]; omega
      have s7 : sumN (fun v => -(X (v : Nat) * F.need.getD v 0)) N = -sumN (fun v => X (v : Nat) * F.need.getD v 0) N := by
        have := sumN_mul (-1) (fun v => X (v : Nat) * F.need.getD v 0) N
        rw [show (-1 : Int) * sumN (fun v => X (v : Nat) * F.need.getD v 0) N = -sumN (fun v => X (v : Nat) * F.need.getD v 0) N by omega] at this
        rw [← this]
        exact sumN_congr fun v _ => by omega
      omega
theorem runs_none {N : Nat} {bs : List Bd} {w : List Int} {C : Int} (hN : N ≤ 128) (_hC : C ≤ 1000000000) (hv : AllValid N bs) {fl : List Int} (hfl : ∀ j, 0 ≤ fl.getD j 0) (hnet : ∀ v : Nat, 1 ≤ v → v < N → netOf bs fl v = w.getD v 0)
    {F : Fl} {R : Option Fl} (h : Runs N bs F R) : BInv N bs w C F → R ≠ none := by
  induction h with
  | done _ _ => intro _ e; cases e
  | stuck _ hp hs => intro hi _; exact stuck_none hN hv hi hp hs hfl hnet
  | step hF hp hs _ ih =>
    intro hi
    obtain ⟨hp1, hp2⟩ := find_range hp
    simp only [decide_eq_true_eq] at hp2
    rw [getI_nat] at hp2
    rcases push_total hN hv hF hi.fl0 hp1 hp2 with e | ⟨F2, q, m, e, P⟩
    · rw [e] at hs; cases hs
    · rw [e] at hs
      cases hs
      exact ih (hi.push hN hp1 P).1
/-- If a flow carries the weights, there is a greatest form. -/
theorem bestRun_some {N : Nat} {bs : List Bd} {w : List Int} {f : Nat} {R : Option BestR} (h1 : 1 ≤ N) (hN : N ≤ 128) (hv : AllValid N bs) (hn : NoNeg bs) (hw : ∀ v, -1000000 ≤ w.getD v 0 ∧ w.getD v 0 ≤ 1000000) (h : BestRun N bs w f R)
    {fl : List Int} (hfl : ∀ j, 0 ≤ fl.getD j 0) (hnet : ∀ v : Nat, 1 ≤ v → v < N → netOf bs fl v = w.getD v 0) : ∃ r, R = some r := by
  obtain ⟨R0, hR, hc⟩ := h.ex
  have := runs_none (C := 256000000) hN (by omega) hv hfl hnet (runsB_ok hN hv _ _ _ hR) (start_inv h1 hN hv hn hw)
  rcases hc with ⟨e, _⟩ | ⟨F, s, _, _, e⟩
  · exact absurd e this
  · exact ⟨_, e⟩
/-- What carries weights. -/
structure Carry (N : Nat) (bs : List Bd) (w fl : List Int) : Prop where
  pos : ∀ j, 0 ≤ fl.getD j 0
  net : ∀ v : Nat, 1 ≤ v → v < N → netOf bs fl v = w.getD v 0
/-- No form is greater than the cost of a flow. -/
theorem dual {N : Nat} {bs : List Bd} {w y fl : List Int} (_h1 : 1 ≤ N) (hv : AllValid N bs) (hl : w.length = N) (y0 : y.getD 0 0 = 0) (hy : ∀ b ∈ bs, getI y b.dst - getI y b.src ≤ b.most) (hc : Carry N bs w fl) : formP w y ≤ costOf bs fl := by
  have d1 := dot_net (N := N) fl (getI y) 0 bs hv
  have d2 := diff_le (flow := fl) (y := getI y) hc.pos 0 bs hy
  unfold costOf
  rw [← d1] at d2
  refine Int.le_trans (Int.le_of_eq ?_) d2
  unfold formP
  rw [hl]
  refine sumN_congr fun v hvN => ?_
  show w.getD v 0 * y.getD v 0 = getI y (v : Nat) * netFrom fl (v : Nat) 0 bs
  rw [getI_nat]
  by_cases e : v = 0
  · subst e; rw [y0]; simp
  · have := hc.net v (by omega) hvN
    unfold netOf at this
    rw [this, Int.mul_comm]
end Go.Proofs.YthjmkmjojlfejaaGreat

namespace Go.Proofs.YthjmkmjojlfejaaGreat
open Go Go.RowKit Go.Shelf
/-- What a closure that tests bounds owes, where its own memory stands. -/
def TestsBoundsK (P : Program) (f : FuncId) (caps : Array Value) (Fix : Nat → Prop) (w : World) (bs : List Bd) (p : Bd → Bool) : Prop :=
  ∀ k (_ : k < bs.length) (W : World), KeepsB Fix w W → Calls P f (#[bs[k].val] ++ caps) W fun e W' => e = .returned (.bool (p bs[k])) ∧ Below W.heap.size W W'
set_option maxHeartbeats 400000 in
theorem indexFuncBounds_any (w : World) (a : Option Addr) (cap : Nat) (bs : List Bd) (f : FuncId) (caps : Array Value) (Fix : Nat → Prop) (p : Bd → Bool) (hl : bs.length ≤ 9223372036854775807) (h : BoundsAt w a bs)
    (hF : ∀ b, Fix b → b < w.heap.size) (hf : TestsBoundsK Tryz.prog f caps Fix w bs p) (eg : Enters Tryz.prog f) :
    Calls Tryz.prog 138 #[.slice a bs.length cap, .func (.func f) #[] caps] w fun e w' => e = .returned (.int .i64 (idxOf p bs)) ∧ Below w.heap.size w w' := by
  have H := hidE h
  have HF := hidE hf
  have HFx := hidE hF
  unfold Enters at eg
  clear h hf hF
  go_enter Tryz.func138, Tryz.ntmps138
  go_wp2
  go_loopw [8] (fun i wr => ∃ k : Nat, k ≤ bs.length ∧ i = .int .i64 k ∧ Hid ((bs.take k).any p = false) ∧ Below w.heap.size w wr)
      (fun i _ => bs.length - (intOf i).toNat)
  case atStart => exact ⟨0, by omega, rfl, hidE rfl, by go_grown⟩
  case round =>
    obtain ⟨k, hk, rfl, HA, hb⟩ := hrel
    by_cases hlt : k < bs.length
    · obtain ⟨b, off, rfl, hbl, hcs⟩ := H.out.at hlt
      obtain ⟨c0, c1, c2, c3⟩ := hcs.below hb hbl
      have hcall := HF.out k hlt wr (KeepsB.below hb HFx.out)
      unfold Bd.val at hcall
      obtain ⟨x, hx⟩ : ∃ x, bs[k] = x := ⟨_, rfl⟩
      rw [hx] at c0 c1 c2 c3 hcall
      have HX := hidE hx
      clear hx hcs
      obtain ⟨q, hq⟩ : ∃ q, p x = q := ⟨_, rfl⟩
      rw [hq] at hcall
      have HC := hidE hcall
      have HQ := hidE hq
      clear hcall hq
      cases q with
      | true =>
        go_wp2_with (go_at_fn f; refine HC.out.mono ?_; rintro e w' ⟨rfl, hb'⟩)
        go_ret
        exact ⟨by rw [idxOf_found hlt HA.out (by rw [HX.out]; exact HQ.out)]; rfl, hb.trans (hb'.mono hb.size)⟩
      | false =>
        go_wp2_with (go_at_fn f; refine HC.out.mono ?_; rintro e w' ⟨rfl, hb'⟩)
        go_roundw
        case rel => exact ⟨k + 1, by omega, by go_num, hidE (take_any_succ hlt HA.out (by rw [HX.out]; exact HQ.out)), hb.trans (hb'.mono hb.size)⟩
        case measure => simp [intOf]; omega
    · go_wp2_with fail
      go_ret
      exact ⟨by rw [idxOf_none (any_of_take (by omega) HA.out)]; rfl, hb⟩
end Go.Proofs.YthjmkmjojlfejaaGreat

namespace Go.Proofs.YthjmkmjojlfejaaGreat
def keptB (y : List Int) (b : Bd) : Bool := decide (b.most < getI y b.dst - getI y b.src)
/-- Kept: the index, whether all are kept, the error. -/
def keptE (N : Int) (bs : List Bd) (y : List Int) : Int × Bool × Int :=
  if checkP N bs ≠ 0 then (0, false, checkP N bs) else if valuesB N y = false then (0, false, 1) else (max (idxOf (keptB y) bs) 0, decide (idxOf (keptB y) bs < 0), 0)
/-- Values that keep a system. -/
structure Keeps (N : Nat) (bs : List Bd) (y : List Int) : Prop where
  len : y.length = N
  zero : y.getD 0 0 = 0
  bd : ∀ v ∈ y, -400000000 ≤ v ∧ v ≤ 400000000
  pot : Pot y bs
theorem kept_pot {bs : List Bd} {y : List Int} : idxOf (keptB y) bs < 0 ↔ Pot y bs := by
  rw [idxOf_neg]
  unfold Pot keptB
  simp only [List.any_eq_false, decide_eq_true_eq]
  constructor
  · intro h b hb; have := h b hb; omega
  · intro h b hb; have := h b hb; omega
theorem keptE_iff {N : Nat} {bs : List Bd} {y : List Int} (hc : checkP N bs = 0) : (keptE N bs y).2.1 = true ↔ Keeps N bs y := by
  unfold keptE
  rw [if_neg (by simp [hc])]
  split
  · rename_i h
    constructor
    · intro e; simp at e
    · intro k; rw [valuesB_iff.2 ⟨k.len, k.zero, k.bd⟩] at h; simp at h
  · rename_i h
    have h2 := valuesB_iff.1 (by simpa using h)
    simp only [decide_eq_true_eq]
    rw [kept_pot]
    exact ⟨fun p => ⟨h2.1, h2.2.1, h2.2.2, p⟩, fun k => k.pot⟩
theorem keptE_bad {N : Int} {bs : List Bd} {y : List Int} (h : (keptE N bs y).2.1 = true) : (keptE N bs y).2.2 = 0 ∧ checkP N bs = 0 := by
  unfold keptE at h ⊢
  split at h
  · simp at h
  · rename_i h1
    rw [if_neg h1]
    split at h
    · simp at h
    · rename_i h2
      rw [if_neg h2]
      exact ⟨rfl, Classical.not_not.1 h1⟩
end Go.Proofs.YthjmkmjojlfejaaGreat

namespace Go.Proofs.YthjmkmjojlfejaaGreat
open Go Go.RowKit Go.Shelf
theorem within_at {n a b : Int} {r : Bool} (h : inR n a b = r) (w : World) : Calls Tryz.prog 185 #[.int .i64 n, .int .i64 a, .int .i64 b] w fun e w' => e = .returned (.bool r) ∧ w = w' := by
  rw [← h]; exact within_any n a b w
theorem values1_any (w : World) (v : Int) : Calls Tryz.prog 184 #[.int .i64 v] w fun e w' => e = .returned (.bool (!inR v (-400000000) 400000000)) ∧ w = w' := by
  obtain ⟨r, hr⟩ : ∃ r, inR v (-400000000) 400000000 = r := ⟨_, rfl⟩
  rw [hr]
  have HR := hidE hr
  clear hr
  go_enter Tryz.func184, Tryz.ntmps184
  go_wp2_with (go_at_call 185; refine (within_at HR.out _).mono ?_; rintro e w' ⟨rfl, rfl⟩)
  go_ret
  exact ⟨rfl, rfl⟩
set_option maxHeartbeats 400000 in
theorem values_any (w : World) (N : Int) (sv : Value) (a : Option Addr) (cap : Nat) (y : List Int) (hN0 : 1 ≤ N) (hN1 : N ≤ 128) (hl : y.length ≤ 9223372036854775807) (h : IntsAt w a y) :
    Calls Tryz.prog 137 #[.agg #[.int .i64 N, sv], .slice a y.length cap] w fun e w' => e = .returned (.bool (valuesB N y)) ∧ Below w.heap.size w w' := by
  by_cases h1 : (y.length : Int) = N
  · have h1b : ((y.length : Int) == N) = true := by simpa using h1
    have hlt : 0 < y.length := by omega
    obtain ⟨b, off, rfl, hbl, hc⟩ := h.at hlt
    have hg : y.getD 0 0 = y[0] := getD_get y 0 hlt
    obtain ⟨v, hv⟩ : ∃ v, y[0] = v := ⟨_, rfl⟩
    rw [hv] at hc hg
    rw [Nat.add_zero] at hc
    by_cases h2 : v = 0
    · have h2b : (v == 0) = true := by simpa using h2
      have hq := containsFuncInts_any (w.alloc (.cells #[.int .i64 N, sv] 24)) (some ⟨b, off, none⟩) cap y 184 #[] (fun v => !inR v (-400000000) 400000000) hl (h.alloc _) (fun k hk W hb => (values1_any W y[k]).mono fun _ _ ⟨he, hw⟩ => ⟨he, hw ▸ Below.refl _ _⟩) (enters_of Tryz.func184 (by kernel_rfl) rfl)
      have hval : valuesB N y = !(y.any fun v => !inR v (-400000000) 400000000) := by unfold valuesB; rw [hg, h1]; simp [h2]
      obtain ⟨r, hr⟩ : ∃ r, (y.any fun v => !inR v (-400000000) 400000000) = r := ⟨_, rfl⟩
      rw [hr] at hq hval
      have HQ := hidE hq
      have HV := hidE hval
      clear hq hval hr hg hv h1 h2 h
      go_enter Tryz.func137, Tryz.ntmps137
      go_wp2_with fail
      refine HQ.out.mono ?_
      rintro e w1 ⟨rfl, hb1⟩
      go_wp2_with fail
      go_ret
      exact ⟨by rw [HV.out]; rfl, ((Below.refl _ _).alloc (Nat.le_refl _) _).trans (hb1.mono (by simp))⟩
    · have h2b : (v == 0) = false := by simpa using h2
      have hval : valuesB N y = false := by unfold valuesB; rw [hg]; simp [h2]
      have HV := hidE hval
      clear hval hg hv h1 h2 h
      go_enter Tryz.func137, Tryz.ntmps137
      go_wp2_with fail
      go_ret
      exact ⟨by rw [HV.out]; rfl, by go_grown⟩
  · have h1b : ((y.length : Int) == N) = false := by simpa using h1
    have hval : valuesB N y = false := by unfold valuesB; simp [h1]
    have HV := hidE hval
    clear hval h1 h
    go_enter Tryz.func137, Tryz.ntmps137
    go_wp2_with fail
    go_ret
    exact ⟨by rw [HV.out]; rfl, by go_grown⟩
set_option maxHeartbeats 400000 in
theorem kept1_any (w : World) (b : Bd) (N bl : Nat) (a : Option Addr) (cap : Nat) (y : List Int) (hb : b.valid N) (hN : y.length = N) (_hN1 : N ≤ 128) (hv : ∀ v ∈ y, -400000000 ≤ v ∧ v ≤ 400000000) (h : IntsAt w a y) (hc : w.cell? ⟨bl, 0, none⟩ = some (.slice a y.length cap)) (hbl : bl < w.heap.size) :
    Calls Tryz.prog 139 #[b.val, .pointer (some ⟨bl, 0, none⟩)] w fun e w' => e = .returned (.bool (keptB y b)) ∧ Below w.heap.size w w' := by
  obtain ⟨v1, v2, v3, v4, v5, v6⟩ := hb
  obtain ⟨ys, yd, ym, yr⟩ := b
  simp only at v1 v2 v3 v4 v5 v6
  obtain ⟨si, rfl⟩ := Int.eq_ofNat_of_zero_le v1
  obtain ⟨di, rfl⟩ := Int.eq_ofNat_of_zero_le v3
  have hs : si < y.length := by omega
  have hd : di < y.length := by omega
  obtain ⟨b, off, rfl, hbw, hcs⟩ := h.at hs
  obtain ⟨b', off', e', _, hcd⟩ := h.at hd
  cases e'
  have q1 := hv y[si] (List.getElem_mem _)
  have q2 := hv y[di] (List.getElem_mem _)
  have hkb : keptB y ⟨si, di, ym, yr⟩ = decide (ym < y[di] - y[si]) := by
    unfold keptB getI
    rw [decide_eq_decide]
    simp only [Int.toNat_natCast]
    rw [getD_get y 0 hs, getD_get y 0 hd]
  obtain ⟨x, hx⟩ : ∃ x, y[si] = x := ⟨_, rfl⟩
  obtain ⟨z, hz⟩ : ∃ z, y[di] = z := ⟨_, rfl⟩
  rw [hx, hz] at hkb
  rw [hx] at hcs q1
  rw [hz] at hcd q2
  have s0 : (si : Int) < y.length := by omega
  have d0 : (di : Int) < y.length := by omega
  have hw1 : IntKind.i64.wrap (z - x) = z - x := IntWalk.i64_in _ (by omega)
  have HK := hidE hkb
  have hbl1 : bl < w.heap.size + 1 := by omega
  clear hkb hx hz hN h hv hbw
  unfold Bd.val
  go_enter Tryz.func139, Tryz.ntmps139
  go_wp2_with fail
  go_quiet (fail)
  go_wp2_with fail
  go_ret
  exact ⟨by rw [HK.out]; rfl, ((Below.refl _ _).alloc (Nat.le_refl _) _).trans (below_drewN' _ _)⟩
set_option maxHeartbeats 1000000 in
theorem kept_any (w : World) (N : Int) (a : Option Addr) (cap : Nat) (bs : List Bd) (a2 : Option Addr) (cap2 : Nat) (y : List Int) (hN : i64ok N) (hl : bs.length ≤ 9223372036854775807) (hl2 : y.length ≤ 9223372036854775807) (h : BoundsAt w a bs) (h2 : IntsAt w a2 y) :
    Calls Tryz.prog 67 #[.agg #[.int .i64 N, .slice a bs.length cap], .slice a2 y.length cap2] w fun e w' => e = .returned (.tuple #[.int .i64 (keptE N bs y).1, .bool (keptE N bs y).2.1, .int .i64 (keptE N bs y).2.2]) ∧ Below w.heap.size w w' := by
  obtain ⟨W0, hW0⟩ : ∃ W0, W0 = (w.alloc (.cells #[.int .i64 N, .slice a bs.length cap] 24)).alloc (.cells #[.slice a2 y.length cap2] 25) := ⟨_, rfl⟩
  have b0 : Below w.heap.size w W0 := by rw [hW0]; exact ((Below.refl _ _).alloc (Nat.le_refl _) _).alloc (by simp) _
  have x0 : W0.heap[w.heap.size]? = some (.cells #[.int .i64 N, .slice a bs.length cap] 24 (0,0)) := by rw [hW0, Below.heap_alloc _ _ _ (by simp), heap_alloc_new]
  have x1 : W0.heap[w.heap.size + 1]? = some (.cells #[.slice a2 y.length cap2] 25 (0,0)) := by rw [hW0, heap_alloc_at _ _ _ (by simp)]
  have hck := check_any W0 N a cap bs hN hl (h.below b0 (Nat.le_refl _))
  by_cases hc : checkP N bs = 0
  · obtain ⟨n0, n1, n2, nv⟩ := checkP_zero hc
    rw [hc] at hck
    have HCK := hidE hck
    have H := hidE h
    have H2 := hidE h2
    have X0 := hidE x0
    have X1 := hidE x1
    have B0 := hidE b0
    have HW := hidE hW0
    have HC := hidE hc
    have NV := hidE nv
    clear hck h h2 x0 x1 b0 hW0 hc nv hN
    go_enter Tryz.func67, Tryz.ntmps67
    go_upto_region 1 with fail
    rw [← HW.out]
    have e0 : W0.cell? ⟨w.heap.size, 0, none⟩ = some (.int .i64 N) := by rw [cell_of_row _ _ _ _ _ _ X0.out]; rfl
    have e1 : W0.cell? ⟨w.heap.size, 1, none⟩ = some (.slice a bs.length cap) := by rw [cell_of_row _ _ _ _ _ _ X0.out]; rfl
    go_wp2_with fail
    refine HCK.out.mono ?_
    rintro e w1 ⟨rfl, hb1⟩
    have y0 := blk_below hb1 (lt_of_block X0.out) X0.out
    have y1 := blk_below hb1 (lt_of_block X1.out) X1.out
    have B1 := B0.out.trans (hb1.mono B0.out.size)
    have hva := values_any w1 N (.slice a bs.length cap) a2 cap2 y n0 n1 hl2 (H2.out.below B1 (Nat.le_refl _))
    have Y0 := hidE y0
    have Y1 := hidE y1
    have HB1 := hidE B1
    have HVA := hidE hva
    have f0 : w1.cell? ⟨w.heap.size, 0, none⟩ = some (.int .i64 N) := by rw [cell_of_row _ _ _ _ _ _ Y0.out]; rfl
    have f1 : w1.cell? ⟨w.heap.size, 1, none⟩ = some (.slice a bs.length cap) := by rw [cell_of_row _ _ _ _ _ _ Y0.out]; rfl
    have f2 : w1.cell? ⟨w.heap.size + 1, 0, none⟩ = some (.slice a2 y.length cap2) := cell_of_one Y1.out
    clear y0 y1 B1 hb1 hva e0 e1
    go_wp2_with fail
    refine HVA.out.mono ?_
    rintro e w2 ⟨rfl, hb2⟩
    have z0 := blk_below hb2 (lt_of_block Y0.out) Y0.out
    have z1 := blk_below hb2 (lt_of_block Y1.out) Y1.out
    have B2 := HB1.out.trans (hb2.mono HB1.out.size)
    have Z0 := hidE z0
    have Z1 := hidE z1
    have HB2 := hidE B2
    clear z0 z1 B2 hb2 f0 f1 f2
    cases hvb : valuesB N y with
    | false =>
      have hk : keptE N bs y = (0, false, 1) := by unfold keptE; rw [if_neg (by simp [HC.out]), if_pos hvb]
      have HK := hidE hk
      clear hvb hk
      go_wp2_with fail
      go_ret3
      exact ⟨by rw [HK.out]; rfl, HB2.out⟩
    | true =>
      have hk : keptE N bs y = (max (idxOf (keptB y) bs) 0, decide (idxOf (keptB y) bs < 0), 0) := by unfold keptE; rw [if_neg (by simp [HC.out]), if_neg (by rw [hvb]; simp)]
      obtain ⟨R, rfl⟩ := Int.eq_ofNat_of_zero_le (show 0 ≤ N by omega)
      obtain ⟨q1, q2, q3⟩ := valuesB_iff.1 hvb
      have e0 : w2.cell? ⟨w.heap.size, 0, none⟩ = some (.int .i64 (R : Int)) := by rw [cell_of_row _ _ _ _ _ _ Z0.out]; rfl
      have e1 : w2.cell? ⟨w.heap.size, 1, none⟩ = some (.slice a bs.length cap) := by rw [cell_of_row _ _ _ _ _ _ Z0.out]; rfl
      have l1 := lt_of_block Z1.out
      have hidx := indexFuncBounds_any w2 a cap bs 139 #[.pointer (some ⟨w.heap.size + 1, 0, none⟩)] (· < w2.heap.size) (keptB y) hl (H.out.below HB2.out (Nat.le_refl _)) (fun b hb => hb)
        (fun k hk W hkp => kept1_any W bs[k] R (w.heap.size + 1) a2 cap2 y (NV.out _ (List.getElem_mem _)).1 q1 (by omega) q3 ((H2.out.below HB2.out (Nat.le_refl _)).kept (fun b hb => hkp.same b hb) hkp.size) ((hkp.cell (by show w.heap.size + 1 < _; exact l1)).trans (cell_of_one Z1.out)) (Nat.lt_of_lt_of_le l1 hkp.size))
        (enters_of Tryz.func139 (by kernel_rfl) rfl)
      obtain ⟨ix, hix⟩ : ∃ x, idxOf (keptB y) bs = x := ⟨_, rfl⟩
      rw [hix] at hidx hk
      have HI := hidE hidx
      have HK := hidE hk
      clear hvb hk hidx hix q1 q2 q3
      go_wp2_with fail
      refine HI.out.mono ?_
      rintro e w3 ⟨rfl, hb3⟩
      have HB3 := hidE (HB2.out.trans (hb3.mono HB2.out.size))
      clear hb3 e0 e1
      go_wp2_with fail
      go_ret3
      exact ⟨by rw [HK.out]; rfl, HB3.out⟩
  · have hk : keptE N bs y = (0, false, checkP N bs) := by unfold keptE; rw [if_pos hc]
    obtain ⟨c, hcc⟩ : ∃ c, checkP N bs = c := ⟨_, rfl⟩
    rw [hcc] at hk hc hck
    have hc2 : (c != 0) = true := by simpa using hc
    have HCK := hidE hck
    have HK := hidE hk
    have X0 := hidE x0
    have B0 := hidE b0
    have HW := hidE hW0
    clear hck hk hc hcc h h2 hN x0 x1 b0 hW0
    go_enter Tryz.func67, Tryz.ntmps67
    go_upto_region 1 with fail
    rw [← HW.out]
    have e0 : W0.cell? ⟨w.heap.size, 0, none⟩ = some (.int .i64 N) := by rw [cell_of_row _ _ _ _ _ _ X0.out]; rfl
    have e1 : W0.cell? ⟨w.heap.size, 1, none⟩ = some (.slice a bs.length cap) := by rw [cell_of_row _ _ _ _ _ _ X0.out]; rfl
    go_wp2_with fail
    refine HCK.out.mono ?_
    rintro e w1 ⟨rfl, hb1⟩
    clear e0 e1
    go_wp2_with fail
    go_ret3
    exact ⟨by rw [HK.out]; rfl, B0.out.trans (hb1.mono B0.out.size)⟩
end Go.Proofs.YthjmkmjojlfejaaGreat

namespace Go.Proofs.YthjmkmjojlfejaaGreat
open Go Go.RowKit Go.Shelf
def costTo (bs : List Bd) (flow : List Int) (k : Nat) : Int := sumN (fun i => flow.getD i 0 * (bnd bs i).most) k
theorem sumN_shift (f : Nat → Int) : ∀ n, sumN f (n + 1) = f 0 + sumN (fun i => f (i + 1)) n
  | 0 => by simp [sumN]
  | n + 1 => by rw [sumN_succ, sumN_shift f n, sumN_succ]; omega
theorem netFrom_eq (flow : List Int) (v : Int) : ∀ (bs : List Bd) (i : Nat), netFrom flow v i bs = sumN (fun j => (if (bnd bs j).dst = v then flow.getD (i + j) 0 else 0) - (if (bnd bs j).src = v then flow.getD (i + j) 0 else 0)) bs.length
  | [], _ => rfl
  | b :: bs, i => by
    rw [List.length_cons, sumN_shift]
    simp only [netFrom]
    rw [netFrom_eq flow v bs (i + 1)]
    simp only [bnd, List.getD_cons_zero, List.getD_cons_succ, Nat.add_zero]
    congr 1
    refine sumN_congr fun j _ => ?_
    rw [show i + 1 + j = i + (j + 1) from by omega]
    rfl
theorem netOf_eq (bs : List Bd) (flow : List Int) (v : Int) : netOf bs flow v = netTo bs flow v bs.length := by
  unfold netOf netTo
  rw [netFrom_eq]
  simp only [Nat.zero_add]
theorem costFrom_eq (flow : List Int) : ∀ (bs : List Bd) (i : Nat), costFrom flow i bs = sumN (fun j => flow.getD (i + j) 0 * (bnd bs j).most) bs.length
  | [], _ => rfl
  | b :: bs, i => by
    rw [List.length_cons, sumN_shift]
    simp only [costFrom]
    rw [costFrom_eq flow bs (i + 1)]
    simp only [bnd, List.getD_cons_zero, List.getD_cons_succ, Nat.add_zero]
    congr 1
    refine sumN_congr fun j _ => ?_
    rw [show i + 1 + j = i + (j + 1) from by omega]
theorem costOf_eq (bs : List Bd) (flow : List Int) : costOf bs flow = costTo bs flow bs.length := by
  unfold costOf costTo
  rw [costFrom_eq]
  simp only [Nat.zero_add]
/-- Whether all points from 1 on below k get what they shall. -/
def carriedTo (bs : List Bd) (flow w : List Int) (k : Nat) : Bool := (List.range k).all fun p => p == 0 || netOf bs flow p == w.getD p 0
def carriesP (N : Nat) (bs : List Bd) (w flow : List Int) : Int × Bool := if carriedTo bs flow w N then (costOf bs flow, true) else (0, false)
theorem carriedTo_succ (bs : List Bd) (flow w : List Int) (k : Nat) : carriedTo bs flow w (k + 1) = (carriedTo bs flow w k && (k == 0 || netOf bs flow k == w.getD k 0)) := by
  unfold carriedTo
  rw [List.range_succ, List.all_append]
  simp
theorem carriedTo_mono {bs : List Bd} {flow w : List Int} {k n : Nat} (h : k ≤ n) (hn : carriedTo bs flow w n = true) : carriedTo bs flow w k = true := by
  unfold carriedTo at *
  rw [List.all_eq_true] at *
  intro x hx
  exact hn x (List.mem_range.2 (by have := List.mem_range.1 hx; omega))
theorem costTo_bd {bs : List Bd} {flow : List Int} (hf : ∀ i, 0 ≤ flow.getD i 0 ∧ flow.getD i 0 ≤ 1000000000) (hm : ∀ b ∈ bs, -1000000 ≤ b.most ∧ b.most ≤ 1000000) {k : Nat} (hk : k ≤ bs.length) (hl : bs.length ≤ 4000) :
    -4000000000000000000 ≤ costTo bs flow k ∧ costTo bs flow k ≤ 4000000000000000000 := by
  have := sumN_bd (f := fun i => flow.getD i 0 * (bnd bs i).most) (c := 1000000000000000) (n := k) fun i hi => by
    have h1 := hf i
    have h2 := hm (bnd bs i) (by rw [bnd_get (by omega)]; exact List.getElem_mem _)
    have := mul_bd (A := 1000000000) (B := 1000000) (a := flow.getD i 0) (b := (bnd bs i).most) (by omega) h1.2 h2.1 h2.2
    show -1000000000000000 ≤ flow.getD i 0 * (bnd bs i).most ∧ flow.getD i 0 * (bnd bs i).most ≤ 1000000000000000
    omega
  unfold costTo
  omega
set_option maxRecDepth 100000 in
set_option maxHeartbeats 2000000 in
theorem carries_any (w : World) (N : Nat) (a : Option Addr) (cap : Nat) (bs : List Bd) (a2 : Option Addr) (cap2 : Nat) (x : List Int) (a3 : Option Addr) (cap3 : Nat) (flow : List Int) (hN1 : N ≤ 128) (hl : bs.length ≤ 4000) (hx : x.length = N) (hf : flow.length = bs.length)
    (h : BoundsAt w a bs) (h2 : IntsAt w a2 x) (h3 : IntsAt w a3 flow) (hv : ∀ b ∈ bs, b.valid N ∧ b.src ≠ b.dst) (hfl : ∀ i, 0 ≤ flow.getD i 0 ∧ flow.getD i 0 ≤ 1000000000) :
    Calls Tryz.prog 125 #[.agg #[.int .i64 (N : Int), .slice a bs.length cap], .slice a2 x.length cap2, .slice a3 flow.length cap3] w fun e w' => e = .returned (.tuple #[.int .i64 (carriesP N bs x flow).1, .bool (carriesP N bs x flow).2]) ∧ Below w.heap.size w w' := by
  have HCB := hidE (fun (k : Nat) (hk : k ≤ bs.length) => costTo_bd hfl (fun b hb => ⟨(hv b hb).1.2.2.2.2.1, (hv b hb).1.2.2.2.2.2⟩) hk hl)
  have H := hidE h
  have H2 := hidE h2
  have H3 := hidE h3
  have HV := hidE hv
  have HFL := hidE hfl
  have HX := hidE hx
  have HFE := hidE hf
  obtain ⟨P1, hP1⟩ : ∃ z, (carriesP N bs x flow).1 = z := ⟨_, rfl⟩
  obtain ⟨P2, hP2⟩ : ∃ z, (carriesP N bs x flow).2 = z := ⟨_, rfl⟩
  rw [hP1, hP2]
  have HP1 := hidE hP1
  have HP2 := hidE hP2
  have hl128 : w.heap.size + 1 < w.heap.size + 1 + 1 := by omega
  clear h h2 h3 hv hfl hx hf hP1 hP2
  go_enter Tryz.func125, Tryz.ntmps125
  go_wp2_with fail
  go_loopw [9, 16] (fun c i wr => ∃ (k : Nat) (s : List Int), k ≤ bs.length ∧ i = .int .i64 k ∧ c = .int .i64 (costTo bs flow k) ∧ Hid (NetRow N bs flow k s) ∧
      Hid (wr.heap[w.heap.size]? = some (.cells #[.int .i64 (N : Int), .slice a bs.length cap] 24 (0,0))) ∧ Hid (wr.heap[w.heap.size + 1]? = some (.cells (rowA s) 153 (0,0))) ∧ Below w.heap.size w wr)
      (fun _ i _ => bs.length - (intOf i).toNat)
  case atStart => exact ⟨0, rep128 0, Nat.zero_le _, rfl, rfl, hidE (NetRow.start N bs flow), hidE (heap_alloc2_old _ _ _), hidE (by rw [heap_alloc2_new, zc153]), by go_grown⟩
  case round =>
    obtain ⟨k, s, hk, rfl, rfl, HN, H1, HA, hb⟩ := hrel
    have hcb := HCB.out k hk
    by_cases hlt : k < bs.length
    · have hcb1 := HCB.out (k + 1) hlt
      have HCS := hidE (sumN_succ (fun i => flow.getD i 0 * (bnd bs i).most) k)
      obtain ⟨b, off, rfl, hbl, hcs⟩ := H.out.at hlt
      obtain ⟨d0, d1, d2, d3⟩ := hcs.below hb hbl
      have hval := HV.out bs[k] (List.getElem_mem hlt)
      have hfk : k < flow.length := by rw [HFE.out]; exact hlt
      obtain ⟨bf, off3, rfl, hbf, hfc⟩ := H3.out.at hfk
      rw [← hb.cell hbf, ← getD_get flow 0 hfk] at hfc
      have hflk := HFL.out k
      have HBN := hidE (bnd_get hlt)
      obtain ⟨f, hfe⟩ : ∃ f, flow.getD k 0 = f := ⟨_, rfl⟩
      obtain ⟨y, hy⟩ : ∃ y, bs[k] = y := ⟨_, rfl⟩
      rw [hy] at d0 d1 d2 d3 hval HBN
      rw [hfe] at hfc hflk
      have HFE2 := hidE hfe
      have HY := hidE hy
      obtain ⟨xs, xd, xm, xr⟩ := y
      obtain ⟨⟨v1, v2, v3, v4, v5, v6⟩, vne⟩ := hval
      simp only at d0 d1 d2 d3 v1 v2 v3 v4 v5 v6 vne
      obtain ⟨si, rfl⟩ := Int.eq_ofNat_of_zero_le v1
      obtain ⟨di, rfl⟩ := Int.eq_ofNat_of_zero_le v3
      have hne : si ≠ di := by omega
      have HSTEP := hidE (HN.out.step hN1 hlt (by rw [hy]) (by rw [hy]) hne (by omega) (by omega) hfe hflk.1 hflk.2)
      have HNE := hidE hne
      have hsl := HN.out.1
      have hsz : w.heap.size + 1 < wr.heap.size := lt_of_block HA.out
      have b3s := HN.out.2.2 si
      have b3d := HN.out.2.2 di
      have HSL := hidE hsl
      have s1 : (si : Int) < 128 := by omega
      have s2 : (di : Int) < 128 := by omega
      have hpm := mul_bd (A := 1000000000) (B := 1000000) (a := f) (b := xm) (by omega) hflk.2 v5 v6
      have hct : Hid (costTo bs flow (k + 1) = costTo bs flow k + f * xm) := hidE (by rw [costTo, HCS.out, ← costTo, HBN.out, HFE2.out])
      rw [hct.out] at hcb1
      have p0 : -1000000000000000 ≤ f * xm := by omega
      have p1 : f * xm ≤ 1000000000000000 := by omega
      obtain ⟨vs, hvs⟩ : ∃ v, s.getD si 0 = v := ⟨_, rfl⟩
      obtain ⟨vd, hvd⟩ : ∃ v, s.getD di 0 = v := ⟨_, rfl⟩
      rw [hvs] at b3s HSTEP
      rw [hvd] at b3d HSTEP
      have HVS := hidE hvs
      have HVD := hidE hvd
      have B := hidE hb
      have hwa : IntKind.i64.wrap (vd + f) = vd + f := IntWalk.i64_in _ (by omega)
      have hwb : IntKind.i64.wrap (vs - f) = vs - f := IntWalk.i64_in _ (by omega)
      have hwc : IntKind.i64.wrap (f * xm) = f * xm := IntWalk.i64_in _ (by omega)
      have HWD := hidE hwa
      have HWS := hidE hwb
      have HWM := hidE hwc
      clear hwa hwb hwc
      clear hfe hy hcs hsl hvs hvd hb vne hpm hne
      obtain ⟨ct, hctt⟩ : ∃ c, costTo bs flow k = c := ⟨_, rfl⟩
      rw [hctt] at hct hcb hcb1 ⊢
      clear hctt
      go_upto_region 6 with fail
      obtain ⟨X, hX⟩ : ∃ X, X = wr.alloc (.cells #[.int .i64 (si : Int), .int .i64 (di : Int), .int .i64 xm, .int .i64 xr] 81) := ⟨_, rfl⟩
      rw [← hX]
      have xa : X.heap[w.heap.size + 1]? = some (.cells (rowA s) 153 (0,0)) := by rw [hX]; exact (Below.heap_alloc _ _ _ hsz).trans HA.out
      have x1 : X.heap[w.heap.size]? = some (.cells #[.int .i64 (N : Int), .slice (some ⟨b, off, none⟩) bs.length cap] 24 (0,0)) := by rw [hX]; exact (Below.heap_alloc _ _ _ (by omega)).trans H1.out
      have xb : X.heap[wr.heap.size]? = some (.cells #[.int .i64 (si : Int), .int .i64 (di : Int), .int .i64 xm, .int .i64 xr] 81 (0,0)) := by rw [hX]; exact heap_alloc_new _ _
      have xB : Below w.heap.size w X := by rw [hX]; exact B.out.alloc B.out.size _
      have xf : X.cell? ⟨bf, off3 + k, none⟩ = some (.int .i64 f) := by rw [hX]; exact (Below.cell ((Below.refl wr.heap.size wr).alloc (Nat.le_refl _) _) (p := ⟨bf, off3 + k, none⟩) (Nat.lt_of_lt_of_le hbf B.out.size)).trans hfc
      have z0 : X.cell? ⟨wr.heap.size, 0, none⟩ = some (.int .i64 (si : Int)) := by rw [cell_of_row _ _ _ _ _ _ xb]; rfl
      have z1 : X.cell? ⟨wr.heap.size, 1, none⟩ = some (.int .i64 (di : Int)) := by rw [cell_of_row _ _ _ _ _ _ xb]; rfl
      have zd : X.cell? ⟨w.heap.size + 1, di, none⟩ = some (.int .i64 vd) := by rw [cell_of_row _ _ _ _ _ _ xa, rowA_get (by rw [HSL.out]; omega), HVD.out]
      have zf : X.frozen? ⟨w.heap.size + 1, di, none⟩ = false := frozen_of_row _ _ _ _ _ xa
      have XA := hidE xa
      have X1 := hidE x1
      have XB := hidE xb
      have XBB := hidE xB
      have XF := hidE xf
      have hww := HWD.out
      clear hX xa x1 xb xB d0 d1 d2 d3 hfc
      go_still_tail 10, (by kernel_rfl)
      go_upto_region 7 with fail
      clear hww
      obtain ⟨Y, hY⟩ : ∃ Y, Y = (X.setCell ⟨w.heap.size + 1, di, none⟩ (.int .i64 (vd + f))).drew := ⟨_, rfl⟩
      rw [← hY]
      have ya : Y.heap[w.heap.size + 1]? = some (.cells (rowA (s.set di (vd + f))) 153 (0,0)) := by rw [hY]; exact (heap_setCell_same _ _ _ _ _ _ XA.out).trans (by rw [rowA_set])
      have y1 : Y.heap[w.heap.size]? = some (.cells #[.int .i64 (N : Int), .slice (some ⟨b, off, none⟩) bs.length cap] 24 (0,0)) := by rw [hY]; exact (heap_setCell_other _ _ _ _ (by simp)).trans X1.out
      have yb : Y.heap[wr.heap.size]? = some (.cells #[.int .i64 (si : Int), .int .i64 (di : Int), .int .i64 xm, .int .i64 xr] 81 (0,0)) := by rw [hY]; exact (heap_setCell_other _ _ _ _ (by simp; omega)).trans XB.out
      have yB : Below w.heap.size w Y := by rw [hY]; exact (XBB.out.setCell (by simp) _).drew
      have yf : Y.cell? ⟨bf, off3 + k, none⟩ = some (.int .i64 f) := by rw [hY]; exact (World.cell?_setCell_other _ _ _ _ (by intro e; have := congrArg Addr.block e; simp at this; omega)).trans XF.out
      have z0' : Y.cell? ⟨wr.heap.size, 0, none⟩ = some (.int .i64 (si : Int)) := by rw [cell_of_row _ _ _ _ _ _ yb]; rfl
      have zs : Y.cell? ⟨w.heap.size + 1, si, none⟩ = some (.int .i64 vs) := by rw [cell_of_row _ _ _ _ _ _ ya, rowA_get (by rw [List.length_set, HSL.out]; omega), getD_set_at, if_neg (fun h => HNE.out h.1.symm), HVS.out]
      have zf' : Y.frozen? ⟨w.heap.size + 1, si, none⟩ = false := frozen_of_row _ _ _ _ _ ya
      have YA := hidE ya
      have Y1 := hidE y1
      have YB := hidE yb
      have YBB := hidE yB
      have YF := hidE yf
      have hww := HWS.out
      clear hY ya y1 yb yB z0 z1 zd zf xf
      go_still_tail 10, (by kernel_rfl)
      go_upto_region 8 with fail
      clear hww
      obtain ⟨Z, hZ⟩ : ∃ Z, Z = (Y.setCell ⟨w.heap.size + 1, si, none⟩ (.int .i64 (vs - f))).drew := ⟨_, rfl⟩
      rw [← hZ]
      have za : Z.heap[w.heap.size + 1]? = some (.cells (rowA ((s.set di (vd + f)).set si (vs - f))) 153 (0,0)) := by rw [hZ]; exact (heap_setCell_same _ _ _ _ _ _ YA.out).trans (by rw [rowA_set])
      have z1 : Z.heap[w.heap.size]? = some (.cells #[.int .i64 (N : Int), .slice (some ⟨b, off, none⟩) bs.length cap] 24 (0,0)) := by rw [hZ]; exact (heap_setCell_other _ _ _ _ (by simp)).trans Y1.out
      have zb : Z.heap[wr.heap.size]? = some (.cells #[.int .i64 (si : Int), .int .i64 (di : Int), .int .i64 xm, .int .i64 xr] 81 (0,0)) := by rw [hZ]; exact (heap_setCell_other _ _ _ _ (by simp; omega)).trans YB.out
      have zB : Below w.heap.size w Z := by rw [hZ]; exact (YBB.out.setCell (by simp) _).drew
      have zff : Z.cell? ⟨bf, off3 + k, none⟩ = some (.int .i64 f) := by rw [hZ]; exact (World.cell?_setCell_other _ _ _ _ (by intro e; have := congrArg Addr.block e; simp at this; omega)).trans YF.out
      have z2 : Z.cell? ⟨wr.heap.size, 2, none⟩ = some (.int .i64 xm) := by rw [cell_of_row _ _ _ _ _ _ zb]; rfl
      have ZA := hidE za
      have Z1 := hidE z1
      have ZBB := hidE zB
      have hww := HWM.out
      clear hZ za z1 zb zB z0' zs zf' yf
      go_quiet (fail)
      clear hww
      go_wp2_with fail
      go_roundw
      case rel => exact ⟨k + 1, _, by omega, by go_num, by rw [hct.out], HSTEP, hidE Z1.out, hidE ZA.out, ZBB.out.trans (below_drewN' _ _)⟩
      case measure => simp [intOf]; omega
    · obtain rfl : k = bs.length := by omega
      have HNN := hidE (fun v (hv : v < N) => (HN.out.2.1 v hv).trans (netOf_eq bs flow v).symm)
      have HSL := hidE HN.out.1
      have b3s := hidE HN.out.2.2
      have B := hidE hb
      obtain ⟨A, rfl⟩ : ∃ A : World, A = wr := ⟨wr, rfl⟩
      obtain ⟨ct, hctt⟩ : ∃ c, costTo bs flow bs.length = c := ⟨_, rfl⟩
      have HCT := hidE ((costOf_eq bs flow).trans hctt)
      rw [hctt] at hcb ⊢
      clear hctt hb HCB HN
      go_wp2_with fail
      go_loopw [12] (fun i wr => ∃ (v nd : Nat), 1 ≤ v ∧ (v ≤ N ∨ v = 1) ∧ i = .int .i64 v ∧ Hid (carriedTo bs flow x v = true) ∧ wr = A.drewN nd) (fun i _ => N - (intOf i).toNat)
      case atStart => exact ⟨1, 0, Nat.le_refl _, .inr rfl, rfl, hidE (by simp [carriedTo, List.range_succ]), rfl⟩
      case round =>
        obtain ⟨v, nd, hv1, hv2, rfl, HCA, rfl⟩ := hrel
        have c1 : A.cell? ⟨w.heap.size, 0, none⟩ = some (.int .i64 (N : Int)) := by rw [cell_of_row _ _ _ _ _ _ H1.out]; rfl
        by_cases hvl : v < N
        · have hvx : v < x.length := by rw [HX.out]; exact hvl
          obtain ⟨bw, offw, rfl, hbw, hwc⟩ := H2.out.at hvx
          rw [← B.out.cell hbw, ← getD_get x 0 hvx] at hwc
          have cv : A.cell? ⟨w.heap.size + 1, v, none⟩ = some (.int .i64 (netOf bs flow v)) := by rw [cell_of_row _ _ _ _ _ _ HA.out, rowA_get (by rw [HSL.out]; omega), HNN.out v hvl]
          have HSUC := hidE (carriedTo_succ bs flow x v)
          have hvdec : decide ((v : Int) < (N : Int)) = true := by simp; omega
          obtain ⟨p, hp⟩ : ∃ p, netOf bs flow v = p := ⟨_, rfl⟩
          obtain ⟨q, hq⟩ : ∃ q, x.getD v 0 = q := ⟨_, rfl⟩
          rw [hp] at cv HSUC
          rw [hq] at hwc HSUC
          have HP := hidE hp
          have HQ := hidE hq
          clear hp hq
          by_cases hpq : p = q
          · have hpqb : (p != q) = false := by simpa using hpq
            have HN1 : Hid (carriedTo bs flow x (v + 1) = true) := hidE (by rw [HSUC.out, HCA.out]; simp [hpq])
            clear hpq
            go_wp2_with fail
            go_quiet (fail)
            go_wp2_with fail
            go_roundw
            case rel => exact ⟨v + 1, _, by omega, .inl (by omega), by go_num, HN1, rfl⟩
            case measure => simp [intOf]; omega
          · have hpqb : (p != q) = true := by simpa using hpq
            have HF : Hid (carriedTo bs flow x N = false) := hidE (by
              cases hc : carriedTo bs flow x N with
              | false => rfl
              | true =>
                have := carriedTo_mono (show v + 1 ≤ N by omega) hc
                rw [HSUC.out] at this
                simp [hpq] at this
                omega)
            have hP1 := HP1.out
            have hP2 := HP2.out
            unfold carriesP at hP1 hP2
            rw [HF.out] at hP1 hP2
            obtain rfl : (0 : Int) = P1 := by simpa using hP1
            obtain rfl : false = P2 := by simpa using hP2
            clear hpq hP1 hP2
            go_wp2_with fail
            go_quiet (fail)
            go_wp2_with fail
            go_ret2
            exact ⟨rfl, (B.out.trans (below_drewN' _ _)).trans (below_drewN' _ _)⟩
        · have hvdec : decide ((v : Int) < (N : Int)) = false := by simp; omega
          have HT : Hid (carriedTo bs flow x N = true) := hidE (carriedTo_mono (by omega) HCA.out)
          have hP1 := HP1.out
          have hP2 := HP2.out
          unfold carriesP at hP1 hP2
          rw [HT.out] at hP1 hP2
          simp only [if_true] at hP1 hP2
          obtain rfl : ct = P1 := by rw [← hP1, HCT.out]
          obtain rfl : true = P2 := hP2
          clear hP1
          go_wp2_with fail
          go_ret2
          exact ⟨rfl, B.out.trans (below_drewN' _ _)⟩
end Go.Proofs.YthjmkmjojlfejaaGreat

namespace Go.Proofs.YthjmkmjojlfejaaGreat
open Go Go.RowKit Go.Shelf
theorem weighed_bd {N : Int} {x : List Int} (h : weighedB N x = true) : (x.length : Int) = N ∧ ∀ v ∈ x, -1000000 ≤ v ∧ v ≤ 1000000 := by
  unfold weighedB at h
  simp only [Bool.and_eq_true, decide_eq_true_eq, List.all_eq_true] at h
  refine ⟨h.1.1, fun v hv => ?_⟩
  have := h.2 v hv
  unfold inR at this
  simpa using this
def formE (N : Int) (bs : List Bd) (x y : List Int) : Int × Int := if checkP N bs ≠ 0 then (0, checkP N bs) else if weighedB N x = false ∨ valuesB N y = false then (0, 1) else (formP x y, 0)
def flowE (N : Int) (bs : List Bd) (x flow : List Int) (most : Int) : Bool × Int :=
  if checkP N bs ≠ 0 then (false, checkP N bs) else if weighedB N x = false then (false, 1) else if flowingB bs.length flow = false then (false, 0) else ((carriesP N.toNat bs x flow).2 && decide ((carriesP N.toNat bs x flow).1 ≤ most), 0)
def bestE (N : Int) (bs : List Bd) (x y flow : List Int) : Bool × Int :=
  if checkP N bs ≠ 0 then (false, checkP N bs) else if weighedB N x = false ∨ valuesB N y = false then (false, 1) else if (keptE N bs y).2.1 = false ∨ flowingB bs.length flow = false then (false, 0)
  else ((carriesP N.toNat bs x flow).2 && ((carriesP N.toNat bs x flow).1 == formP x y), 0)
theorem keptE_err0 {N : Int} {bs : List Bd} {y : List Int} (h : checkP N bs = 0) (hv : valuesB N y = true) : (keptE N bs y).2.2 = 0 := by
  unfold keptE
  rw [if_neg (by omega), if_neg (by simp [hv])]
set_option maxHeartbeats 2000000 in
theorem formE_any (w : World) (N : Int) (a : Option Addr) (cap : Nat) (bs : List Bd) (a2 : Option Addr) (cap2 : Nat) (x : List Int) (a3 : Option Addr) (cap3 : Nat) (y : List Int) (hN : i64ok N) (hl : bs.length ≤ 9223372036854775807) (h : BoundsAt w a bs) (hl2 : x.length ≤ 9223372036854775807) (h2 : IntsAt w a2 x) (hl3 : y.length ≤ 9223372036854775807) (h3 : IntsAt w a3 y) :
    Calls Tryz.prog 39 #[.agg #[.int .i64 N, .slice a bs.length cap], .slice a2 x.length cap2, .slice a3 y.length cap3] w fun e w' => e = .returned (.tuple #[.int .i64 (formE N bs x y).1, .int .i64 (formE N bs x y).2]) ∧ Below w.heap.size w w' := by
  have B0 := hidE (show Below w.heap.size w (w.alloc (.cells #[.int .i64 N, .slice a bs.length cap] 24)) from (Below.refl _ _).alloc (Nat.le_refl _) _)
  have hch := check_any (w.alloc (.cells #[.int .i64 N, .slice a bs.length cap] 24)) N a cap bs hN hl (h.alloc _)
  obtain ⟨P1, hP1⟩ : ∃ z, (formE N bs x y).1 = z := ⟨_, rfl⟩
  obtain ⟨P2, hP2⟩ : ∃ z, (formE N bs x y).2 = z := ⟨_, rfl⟩
  rw [hP1, hP2]
  have H := hidE h
  have HN := hidE hN
  have H2 := hidE h2
  have H3 := hidE h3
  clear h h2 h3 hN
  by_cases z : checkP N bs = 0
  · rw [z] at hch
    obtain ⟨R, rfl, hR1, hR2, hbl, hv⟩ := allOk_of z
    have HZ := hidE z
    have HCH := hidE hch
    have HV := hidE hv
    clear z hch hv
    have HWE := hidE (fun W hy => weighed_any W (R : Int) a2 cap2 x hl2 hy)
    have HVA := hidE (fun W hy => valued_any W (R : Int) a3 cap3 y (by omega) hl3 hy)
    cases hq : weighedB (R : Int) x with
    | false =>
      unfold formE at hP1 hP2
      rw [if_neg (by have := HZ.out; omega), if_pos (.inl hq)] at hP1 hP2
      obtain rfl : (0 : Int) = P1 := hP1
      obtain rfl : (1 : Int) = P2 := hP2
      rw [hq] at HWE
      clear hq
      go_enter Tryz.func39, Tryz.ntmps39
      go_wp2_with fail
      refine (HCH.out).mono ?_
      rintro e w1 ⟨rfl, hb1⟩
      have x1 := blk_below hb1 (by simp) (heap_alloc_new w (.cells #[.int .i64 (R : Int), .slice a bs.length cap] 24))
      have c0_1 : w1.cell? ⟨w.heap.size, 0, none⟩ = some (.int .i64 (R : Int)) := by rw [cell_of_row _ _ _ _ _ _ x1]; rfl
      have c1_1 : w1.cell? ⟨w.heap.size, 1, none⟩ = some (.slice a bs.length cap) := by rw [cell_of_row _ _ _ _ _ _ x1]; rfl
      have l1 := lt_of_block x1
      have B1 := hidE (B0.out.trans (hb1.mono B0.out.size))
      have X1 := hidE x1
      clear hb1 x1
      go_wp2_with fail
      refine (HWE.out _ ((H2).out.below B1.out (Nat.le_refl _))).mono ?_
      rintro e w2 ⟨rfl, hb2⟩
      have x2 := blk_below hb2 l1 X1.out
      have c0_2 : w2.cell? ⟨w.heap.size, 0, none⟩ = some (.int .i64 (R : Int)) := by rw [cell_of_row _ _ _ _ _ _ x2]; rfl
      have c1_2 : w2.cell? ⟨w.heap.size, 1, none⟩ = some (.slice a bs.length cap) := by rw [cell_of_row _ _ _ _ _ _ x2]; rfl
      have l2 := lt_of_block x2
      have B2 := hidE (B1.out.trans (hb2.mono B1.out.size))
      have X2 := hidE x2
      clear hb2 x2 c0_1 c1_1
      go_wp2_with fail
      go_ret2
      exact ⟨rfl, B2.out⟩
    | true =>
      have HB := hidE (weighed_bd hq)
      rw [hq] at HWE
      cases hu : valuesB (R : Int) y with
      | false =>
        unfold formE at hP1 hP2
        rw [if_neg (by have := HZ.out; omega), if_pos (.inr hu)] at hP1 hP2
        obtain rfl : (0 : Int) = P1 := hP1
        obtain rfl : (1 : Int) = P2 := hP2
        rw [hu] at HVA
        clear hq hu
        go_enter Tryz.func39, Tryz.ntmps39
        go_wp2_with fail
        refine (HCH.out).mono ?_
        rintro e w1 ⟨rfl, hb1⟩
        have x1 := blk_below hb1 (by simp) (heap_alloc_new w (.cells #[.int .i64 (R : Int), .slice a bs.length cap] 24))
        have c0_1 : w1.cell? ⟨w.heap.size, 0, none⟩ = some (.int .i64 (R : Int)) := by rw [cell_of_row _ _ _ _ _ _ x1]; rfl
        have c1_1 : w1.cell? ⟨w.heap.size, 1, none⟩ = some (.slice a bs.length cap) := by rw [cell_of_row _ _ _ _ _ _ x1]; rfl
        have l1 := lt_of_block x1
        have B1 := hidE (B0.out.trans (hb1.mono B0.out.size))
        have X1 := hidE x1
        clear hb1 x1
        go_wp2_with fail
        refine (HWE.out _ ((H2).out.below B1.out (Nat.le_refl _))).mono ?_
        rintro e w2 ⟨rfl, hb2⟩
        have x2 := blk_below hb2 l1 X1.out
        have c0_2 : w2.cell? ⟨w.heap.size, 0, none⟩ = some (.int .i64 (R : Int)) := by rw [cell_of_row _ _ _ _ _ _ x2]; rfl
        have c1_2 : w2.cell? ⟨w.heap.size, 1, none⟩ = some (.slice a bs.length cap) := by rw [cell_of_row _ _ _ _ _ _ x2]; rfl
        have l2 := lt_of_block x2
        have B2 := hidE (B1.out.trans (hb2.mono B1.out.size))
        have X2 := hidE x2
        clear hb2 x2 c0_1 c1_1
        go_wp2_with fail
        refine (HVA.out _ ((H3).out.below B2.out (Nat.le_refl _))).mono ?_
        rintro e w3 ⟨rfl, hb3⟩
        have x3 := blk_below hb3 l2 X2.out
        have c0_3 : w3.cell? ⟨w.heap.size, 0, none⟩ = some (.int .i64 (R : Int)) := by rw [cell_of_row _ _ _ _ _ _ x3]; rfl
        have c1_3 : w3.cell? ⟨w.heap.size, 1, none⟩ = some (.slice a bs.length cap) := by rw [cell_of_row _ _ _ _ _ _ x3]; rfl
        have l3 := lt_of_block x3
        have B3 := hidE (B2.out.trans (hb3.mono B2.out.size))
        have X3 := hidE x3
        clear hb3 x3 c0_2 c1_2
        go_wp2_with fail
        go_ret2
        exact ⟨rfl, B3.out⟩
      | true =>
        unfold formE at hP1 hP2
        rw [if_neg (by have := HZ.out; omega), if_neg (by simp [hq, hu])] at hP1 hP2
        obtain rfl : (0 : Int) = P2 := hP2
        have HVB := hidE (valuesB_iff.1 hu)
        have HFO := hidE (fun W hx hy => form_any W a2 cap2 x a3 cap3 y (by have := HB.out.1; omega) (by have := HB.out.1; have := HVB.out.1; omega) hx hy HB.out.2 HVB.out.2.2)
        rw [show formP x y = P1 from hP1] at HFO
        rw [hu] at HVA
        clear hq hu hP1
        go_enter Tryz.func39, Tryz.ntmps39
        go_wp2_with fail
        refine (HCH.out).mono ?_
        rintro e w1 ⟨rfl, hb1⟩
        have x1 := blk_below hb1 (by simp) (heap_alloc_new w (.cells #[.int .i64 (R : Int), .slice a bs.length cap] 24))
        have c0_1 : w1.cell? ⟨w.heap.size, 0, none⟩ = some (.int .i64 (R : Int)) := by rw [cell_of_row _ _ _ _ _ _ x1]; rfl
        have c1_1 : w1.cell? ⟨w.heap.size, 1, none⟩ = some (.slice a bs.length cap) := by rw [cell_of_row _ _ _ _ _ _ x1]; rfl
        have l1 := lt_of_block x1
        have B1 := hidE (B0.out.trans (hb1.mono B0.out.size))
        have X1 := hidE x1
        clear hb1 x1
        go_wp2_with fail
        refine (HWE.out _ ((H2).out.below B1.out (Nat.le_refl _))).mono ?_
        rintro e w2 ⟨rfl, hb2⟩
        have x2 := blk_below hb2 l1 X1.out
        have c0_2 : w2.cell? ⟨w.heap.size, 0, none⟩ = some (.int .i64 (R : Int)) := by rw [cell_of_row _ _ _ _ _ _ x2]; rfl
        have c1_2 : w2.cell? ⟨w.heap.size, 1, none⟩ = some (.slice a bs.length cap) := by rw [cell_of_row _ _ _ _ _ _ x2]; rfl
        have l2 := lt_of_block x2
        have B2 := hidE (B1.out.trans (hb2.mono B1.out.size))
        have X2 := hidE x2
        clear hb2 x2 c0_1 c1_1
        go_wp2_with fail
        refine (HVA.out _ ((H3).out.below B2.out (Nat.le_refl _))).mono ?_
        rintro e w3 ⟨rfl, hb3⟩
        have x3 := blk_below hb3 l2 X2.out
        have c0_3 : w3.cell? ⟨w.heap.size, 0, none⟩ = some (.int .i64 (R : Int)) := by rw [cell_of_row _ _ _ _ _ _ x3]; rfl
        have c1_3 : w3.cell? ⟨w.heap.size, 1, none⟩ = some (.slice a bs.length cap) := by rw [cell_of_row _ _ _ _ _ _ x3]; rfl
        have l3 := lt_of_block x3
        have B3 := hidE (B2.out.trans (hb3.mono B2.out.size))
        have X3 := hidE x3
        clear hb3 x3 c0_2 c1_2
        go_wp2_with fail
        refine (HFO.out _ ((H2).out.below B3.out (Nat.le_refl _)) ((H3).out.below B3.out (Nat.le_refl _))).mono ?_
        rintro e w4 ⟨rfl, rfl⟩
        go_wp2_with fail
        go_ret2
        exact ⟨rfl, B3.out⟩
  · have zb : (checkP N bs != 0) = true := by simpa using z
    unfold formE at hP1 hP2
    rw [if_pos z] at hP1 hP2
    obtain rfl : (0 : Int) = P1 := hP1
    obtain rfl : checkP N bs = P2 := hP2
    have HCH := hidE hch
    obtain ⟨c, hc⟩ : ∃ c, checkP N bs = c := ⟨_, rfl⟩
    rw [hc] at zb HCH ⊢
    clear hch hc z
    go_enter Tryz.func39, Tryz.ntmps39
    go_wp2_with fail
    refine (HCH.out).mono ?_
    rintro e w1 ⟨rfl, hb1⟩
    have x1 := blk_below hb1 (by simp) (heap_alloc_new w (.cells #[.int .i64 N, .slice a bs.length cap] 24))
    have c0_1 : w1.cell? ⟨w.heap.size, 0, none⟩ = some (.int .i64 N) := by rw [cell_of_row _ _ _ _ _ _ x1]; rfl
    have c1_1 : w1.cell? ⟨w.heap.size, 1, none⟩ = some (.slice a bs.length cap) := by rw [cell_of_row _ _ _ _ _ _ x1]; rfl
    have l1 := lt_of_block x1
    have B1 := hidE (B0.out.trans (hb1.mono B0.out.size))
    have X1 := hidE x1
    clear hb1 x1
    go_wp2_with fail
    go_ret2
    exact ⟨rfl, B1.out⟩
set_option maxHeartbeats 2000000 in
theorem checkFlow_any (w : World) (N : Int) (a : Option Addr) (cap : Nat) (bs : List Bd) (a2 : Option Addr) (cap2 : Nat) (x : List Int) (a3 : Option Addr) (cap3 : Nat) (flow : List Int) (most : Int) (hN : i64ok N) (hl : bs.length ≤ 9223372036854775807) (h : BoundsAt w a bs) (hl2 : x.length ≤ 9223372036854775807) (h2 : IntsAt w a2 x) (hl3 : flow.length ≤ 9223372036854775807) (h3 : IntsAt w a3 flow) :
    Calls Tryz.prog 58 #[.agg #[.int .i64 N, .slice a bs.length cap], .slice a2 x.length cap2, .slice a3 flow.length cap3, .int .i64 most] w fun e w' => e = .returned (.tuple #[.bool (flowE N bs x flow most).1, .int .i64 (flowE N bs x flow most).2]) ∧ Below w.heap.size w w' := by
  have B0 := hidE (show Below w.heap.size w (w.alloc (.cells #[.int .i64 N, .slice a bs.length cap] 24)) from (Below.refl _ _).alloc (Nat.le_refl _) _)
  have hch := check_any (w.alloc (.cells #[.int .i64 N, .slice a bs.length cap] 24)) N a cap bs hN hl (h.alloc _)
  obtain ⟨P1, hP1⟩ : ∃ z, (flowE N bs x flow most).1 = z := ⟨_, rfl⟩
  obtain ⟨P2, hP2⟩ : ∃ z, (flowE N bs x flow most).2 = z := ⟨_, rfl⟩
  rw [hP1, hP2]
  have H := hidE h
  have HN := hidE hN
  have H2 := hidE h2
  have H3 := hidE h3
  clear h h2 h3 hN
  by_cases z : checkP N bs = 0
  · rw [z] at hch
    obtain ⟨R, rfl, hR1, hR2, hbl, hv⟩ := allOk_of z
    have HZ := hidE z
    have HCH := hidE hch
    have HV := hidE hv
    clear z hch hv
    have HWE := hidE (fun W hy => weighed_any W (R : Int) a2 cap2 x hl2 hy)
    have HFL := hidE (fun W hy => flowing_any W (R : Int) a bs.length cap a3 cap3 flow hl3 hy)
    cases hq : weighedB (R : Int) x with
    | false =>
      unfold flowE at hP1 hP2
      rw [if_neg (by have := HZ.out; omega), if_pos hq] at hP1 hP2
      obtain rfl : false = P1 := hP1
      obtain rfl : (1 : Int) = P2 := hP2
      rw [hq] at HWE
      clear hq
      go_enter Tryz.func58, Tryz.ntmps58
      go_wp2_with fail
      refine (HCH.out).mono ?_
      rintro e w1 ⟨rfl, hb1⟩
      have x1 := blk_below hb1 (by simp) (heap_alloc_new w (.cells #[.int .i64 (R : Int), .slice a bs.length cap] 24))
      have c0_1 : w1.cell? ⟨w.heap.size, 0, none⟩ = some (.int .i64 (R : Int)) := by rw [cell_of_row _ _ _ _ _ _ x1]; rfl
      have c1_1 : w1.cell? ⟨w.heap.size, 1, none⟩ = some (.slice a bs.length cap) := by rw [cell_of_row _ _ _ _ _ _ x1]; rfl
      have l1 := lt_of_block x1
      have B1 := hidE (B0.out.trans (hb1.mono B0.out.size))
      have X1 := hidE x1
      clear hb1 x1
      go_wp2_with fail
      refine (HWE.out _ ((H2).out.below B1.out (Nat.le_refl _))).mono ?_
      rintro e w2 ⟨rfl, hb2⟩
      have x2 := blk_below hb2 l1 X1.out
      have c0_2 : w2.cell? ⟨w.heap.size, 0, none⟩ = some (.int .i64 (R : Int)) := by rw [cell_of_row _ _ _ _ _ _ x2]; rfl
      have c1_2 : w2.cell? ⟨w.heap.size, 1, none⟩ = some (.slice a bs.length cap) := by rw [cell_of_row _ _ _ _ _ _ x2]; rfl
      have l2 := lt_of_block x2
      have B2 := hidE (B1.out.trans (hb2.mono B1.out.size))
      have X2 := hidE x2
      clear hb2 x2 c0_1 c1_1
      go_wp2_with fail
      go_ret2
      exact ⟨rfl, B2.out⟩
    | true =>
      have HB := hidE (weighed_bd hq)
      rw [hq] at HWE
      cases hu : flowingB bs.length flow with
      | false =>
        unfold flowE at hP1 hP2
        rw [if_neg (by have := HZ.out; omega), if_neg (by simp [hq]), if_pos hu] at hP1 hP2
        obtain rfl : false = P1 := hP1
        obtain rfl : (0 : Int) = P2 := hP2
        rw [hu] at HFL
        clear hq hu
        go_enter Tryz.func58, Tryz.ntmps58
        go_wp2_with fail
        refine (HCH.out).mono ?_
        rintro e w1 ⟨rfl, hb1⟩
        have x1 := blk_below hb1 (by simp) (heap_alloc_new w (.cells #[.int .i64 (R : Int), .slice a bs.length cap] 24))
        have c0_1 : w1.cell? ⟨w.heap.size, 0, none⟩ = some (.int .i64 (R : Int)) := by rw [cell_of_row _ _ _ _ _ _ x1]; rfl
        have c1_1 : w1.cell? ⟨w.heap.size, 1, none⟩ = some (.slice a bs.length cap) := by rw [cell_of_row _ _ _ _ _ _ x1]; rfl
        have l1 := lt_of_block x1
        have B1 := hidE (B0.out.trans (hb1.mono B0.out.size))
        have X1 := hidE x1
        clear hb1 x1
        go_wp2_with fail
        refine (HWE.out _ ((H2).out.below B1.out (Nat.le_refl _))).mono ?_
        rintro e w2 ⟨rfl, hb2⟩
        have x2 := blk_below hb2 l1 X1.out
        have c0_2 : w2.cell? ⟨w.heap.size, 0, none⟩ = some (.int .i64 (R : Int)) := by rw [cell_of_row _ _ _ _ _ _ x2]; rfl
        have c1_2 : w2.cell? ⟨w.heap.size, 1, none⟩ = some (.slice a bs.length cap) := by rw [cell_of_row _ _ _ _ _ _ x2]; rfl
        have l2 := lt_of_block x2
        have B2 := hidE (B1.out.trans (hb2.mono B1.out.size))
        have X2 := hidE x2
        clear hb2 x2 c0_1 c1_1
        go_wp2_with fail
        refine (HFL.out _ ((H3).out.below B2.out (Nat.le_refl _))).mono ?_
        rintro e w3 ⟨rfl, hb3⟩
        have x3 := blk_below hb3 l2 X2.out
        have c0_3 : w3.cell? ⟨w.heap.size, 0, none⟩ = some (.int .i64 (R : Int)) := by rw [cell_of_row _ _ _ _ _ _ x3]; rfl
        have c1_3 : w3.cell? ⟨w.heap.size, 1, none⟩ = some (.slice a bs.length cap) := by rw [cell_of_row _ _ _ _ _ _ x3]; rfl
        have l3 := lt_of_block x3
        have B3 := hidE (B2.out.trans (hb3.mono B2.out.size))
        have X3 := hidE x3
        clear hb3 x3 c0_2 c1_2
        go_wp2_with fail
        go_ret2
        exact ⟨rfl, B3.out⟩
      | true =>
        unfold flowE at hP1 hP2
        rw [if_neg (by have := HZ.out; omega), if_neg (by simp [hq]), if_neg (by simp [hu])] at hP1 hP2
        obtain rfl : (0 : Int) = P2 := hP2
        have HFB := hidE (flowing_bd hu)
        have HCR := hidE (fun W hb hx hf => carries_any W R a cap bs a2 cap2 x a3 cap3 flow hR2 (by omega) (by have := HB.out.1; omega) HFB.out.1 hb hx hf HV.out HFB.out.2)
        rw [Int.toNat_natCast] at hP1
        obtain ⟨c, hc⟩ : ∃ c, (carriesP R bs x flow).1 = c := ⟨_, rfl⟩
        obtain ⟨k, hk⟩ : ∃ k, (carriesP R bs x flow).2 = k := ⟨_, rfl⟩
        rw [hc, hk] at HCR
        simp only [hc, hk] at hP1
        rw [hu] at HFL
        have HP := hidE hP1
        clear hq hu hc hk hP1
        go_enter Tryz.func58, Tryz.ntmps58
        go_wp2_with fail
        refine (HCH.out).mono ?_
        rintro e w1 ⟨rfl, hb1⟩
        have x1 := blk_below hb1 (by simp) (heap_alloc_new w (.cells #[.int .i64 (R : Int), .slice a bs.length cap] 24))
        have c0_1 : w1.cell? ⟨w.heap.size, 0, none⟩ = some (.int .i64 (R : Int)) := by rw [cell_of_row _ _ _ _ _ _ x1]; rfl
        have c1_1 : w1.cell? ⟨w.heap.size, 1, none⟩ = some (.slice a bs.length cap) := by rw [cell_of_row _ _ _ _ _ _ x1]; rfl
        have l1 := lt_of_block x1
        have B1 := hidE (B0.out.trans (hb1.mono B0.out.size))
        have X1 := hidE x1
        clear hb1 x1
        go_wp2_with fail
        refine (HWE.out _ ((H2).out.below B1.out (Nat.le_refl _))).mono ?_
        rintro e w2 ⟨rfl, hb2⟩
        have x2 := blk_below hb2 l1 X1.out
        have c0_2 : w2.cell? ⟨w.heap.size, 0, none⟩ = some (.int .i64 (R : Int)) := by rw [cell_of_row _ _ _ _ _ _ x2]; rfl
        have c1_2 : w2.cell? ⟨w.heap.size, 1, none⟩ = some (.slice a bs.length cap) := by rw [cell_of_row _ _ _ _ _ _ x2]; rfl
        have l2 := lt_of_block x2
        have B2 := hidE (B1.out.trans (hb2.mono B1.out.size))
        have X2 := hidE x2
        clear hb2 x2 c0_1 c1_1
        go_wp2_with fail
        refine (HFL.out _ ((H3).out.below B2.out (Nat.le_refl _))).mono ?_
        rintro e w3 ⟨rfl, hb3⟩
        have x3 := blk_below hb3 l2 X2.out
        have c0_3 : w3.cell? ⟨w.heap.size, 0, none⟩ = some (.int .i64 (R : Int)) := by rw [cell_of_row _ _ _ _ _ _ x3]; rfl
        have c1_3 : w3.cell? ⟨w.heap.size, 1, none⟩ = some (.slice a bs.length cap) := by rw [cell_of_row _ _ _ _ _ _ x3]; rfl
        have l3 := lt_of_block x3
        have B3 := hidE (B2.out.trans (hb3.mono B2.out.size))
        have X3 := hidE x3
        clear hb3 x3 c0_2 c1_2
        go_wp2_with fail
        refine (HCR.out _ ((H).out.below B3.out (Nat.le_refl _)) ((H2).out.below B3.out (Nat.le_refl _)) ((H3).out.below B3.out (Nat.le_refl _))).mono ?_
        rintro e w4 ⟨rfl, hb4⟩
        have x4 := blk_below hb4 l3 X3.out
        have c0_4 : w4.cell? ⟨w.heap.size, 0, none⟩ = some (.int .i64 (R : Int)) := by rw [cell_of_row _ _ _ _ _ _ x4]; rfl
        have c1_4 : w4.cell? ⟨w.heap.size, 1, none⟩ = some (.slice a bs.length cap) := by rw [cell_of_row _ _ _ _ _ _ x4]; rfl
        have l4 := lt_of_block x4
        have B4 := hidE (B3.out.trans (hb4.mono B3.out.size))
        have X4 := hidE x4
        clear hb4 x4 c0_3 c1_3
        cases k with
        | false =>
          obtain rfl : false = P1 := by have := HP.out; simpa using this
          go_wp2_with fail
          go_ret2
          exact ⟨rfl, B4.out⟩
        | true =>
          by_cases hm : c ≤ most
          · have hmd : decide (c ≤ most) = true := by simpa using hm
            obtain rfl : true = P1 := by have := HP.out; simpa [hm] using this
            clear hm
            go_wp2_with fail
            go_ret2
            exact ⟨rfl, B4.out⟩
          · have hmd : decide (c ≤ most) = false := by simpa using hm
            obtain rfl : false = P1 := by have := HP.out; simpa [hm] using this
            clear hm
            go_wp2_with fail
            go_ret2
            exact ⟨rfl, B4.out⟩
  · have zb : (checkP N bs != 0) = true := by simpa using z
    unfold flowE at hP1 hP2
    rw [if_pos z] at hP1 hP2
    obtain rfl : false = P1 := hP1
    obtain rfl : checkP N bs = P2 := hP2
    have HCH := hidE hch
    obtain ⟨c, hc⟩ : ∃ c, checkP N bs = c := ⟨_, rfl⟩
    rw [hc] at zb HCH ⊢
    clear hch hc z
    go_enter Tryz.func58, Tryz.ntmps58
    go_wp2_with fail
    refine (HCH.out).mono ?_
    rintro e w1 ⟨rfl, hb1⟩
    have x1 := blk_below hb1 (by simp) (heap_alloc_new w (.cells #[.int .i64 N, .slice a bs.length cap] 24))
    have c0_1 : w1.cell? ⟨w.heap.size, 0, none⟩ = some (.int .i64 N) := by rw [cell_of_row _ _ _ _ _ _ x1]; rfl
    have c1_1 : w1.cell? ⟨w.heap.size, 1, none⟩ = some (.slice a bs.length cap) := by rw [cell_of_row _ _ _ _ _ _ x1]; rfl
    have l1 := lt_of_block x1
    have B1 := hidE (B0.out.trans (hb1.mono B0.out.size))
    have X1 := hidE x1
    clear hb1 x1
    go_wp2_with fail
    go_ret2
    exact ⟨rfl, B1.out⟩
set_option maxHeartbeats 2000000 in
theorem checkBest_any (w : World) (N : Int) (a : Option Addr) (cap : Nat) (bs : List Bd) (a2 : Option Addr) (cap2 : Nat) (x : List Int) (a3 : Option Addr) (cap3 : Nat) (y : List Int) (a4 : Option Addr) (cap4 : Nat) (flow : List Int) (hN : i64ok N) (hl : bs.length ≤ 9223372036854775807) (h : BoundsAt w a bs) (hl2 : x.length ≤ 9223372036854775807) (h2 : IntsAt w a2 x) (hl3 : y.length ≤ 9223372036854775807) (h3 : IntsAt w a3 y) (hl4 : flow.length ≤ 9223372036854775807) (h4 : IntsAt w a4 flow) :
    Calls Tryz.prog 60 #[.agg #[.int .i64 N, .slice a bs.length cap], .slice a2 x.length cap2, .slice a3 y.length cap3, .slice a4 flow.length cap4] w fun e w' => e = .returned (.tuple #[.bool (bestE N bs x y flow).1, .int .i64 (bestE N bs x y flow).2]) ∧ Below w.heap.size w w' := by
  have B0 := hidE (show Below w.heap.size w (w.alloc (.cells #[.int .i64 N, .slice a bs.length cap] 24)) from (Below.refl _ _).alloc (Nat.le_refl _) _)
  have hch := check_any (w.alloc (.cells #[.int .i64 N, .slice a bs.length cap] 24)) N a cap bs hN hl (h.alloc _)
  obtain ⟨P1, hP1⟩ : ∃ z, (bestE N bs x y flow).1 = z := ⟨_, rfl⟩
  obtain ⟨P2, hP2⟩ : ∃ z, (bestE N bs x y flow).2 = z := ⟨_, rfl⟩
  rw [hP1, hP2]
  have H := hidE h
  have HN := hidE hN
  have H2 := hidE h2
  have H3 := hidE h3
  have H4 := hidE h4
  clear h h2 h3 h4 hN
  by_cases z : checkP N bs = 0
  · rw [z] at hch
    obtain ⟨R, rfl, hR1, hR2, hbl, hv⟩ := allOk_of z
    have HZ := hidE z
    have HCH := hidE hch
    have HV := hidE hv
    clear z hch hv
    have HWE := hidE (fun W hy => weighed_any W (R : Int) a2 cap2 x hl2 hy)
    have HVA := hidE (fun W hy => valued_any W (R : Int) a3 cap3 y (by omega) hl3 hy)
    have HFL := hidE (fun W hy => flowing_any W (R : Int) a bs.length cap a4 cap4 flow hl4 hy)
    have HKE := hidE (fun W hb hy => kept_any W (R : Int) a cap bs a3 cap3 y HN.out hl hl3 hb hy)
    cases hq : weighedB (R : Int) x with
    | false =>
      unfold bestE at hP1 hP2
      rw [if_neg (by have := HZ.out; omega), if_pos (.inl hq)] at hP1 hP2
      obtain rfl : false = P1 := hP1
      obtain rfl : (1 : Int) = P2 := hP2
      rw [hq] at HWE
      clear hq
      go_enter Tryz.func60, Tryz.ntmps60
      go_wp2_with fail
      refine (HCH.out).mono ?_
      rintro e w1 ⟨rfl, hb1⟩
      have x1 := blk_below hb1 (by simp) (heap_alloc_new w (.cells #[.int .i64 (R : Int), .slice a bs.length cap] 24))
      have c0_1 : w1.cell? ⟨w.heap.size, 0, none⟩ = some (.int .i64 (R : Int)) := by rw [cell_of_row _ _ _ _ _ _ x1]; rfl
      have c1_1 : w1.cell? ⟨w.heap.size, 1, none⟩ = some (.slice a bs.length cap) := by rw [cell_of_row _ _ _ _ _ _ x1]; rfl
      have l1 := lt_of_block x1
      have B1 := hidE (B0.out.trans (hb1.mono B0.out.size))
      have X1 := hidE x1
      clear hb1 x1
      go_wp2_with fail
      refine (HWE.out _ ((H2).out.below B1.out (Nat.le_refl _))).mono ?_
      rintro e w2 ⟨rfl, hb2⟩
      have x2 := blk_below hb2 l1 X1.out
      have c0_2 : w2.cell? ⟨w.heap.size, 0, none⟩ = some (.int .i64 (R : Int)) := by rw [cell_of_row _ _ _ _ _ _ x2]; rfl
      have c1_2 : w2.cell? ⟨w.heap.size, 1, none⟩ = some (.slice a bs.length cap) := by rw [cell_of_row _ _ _ _ _ _ x2]; rfl
      have l2 := lt_of_block x2
      have B2 := hidE (B1.out.trans (hb2.mono B1.out.size))
      have X2 := hidE x2
      clear hb2 x2 c0_1 c1_1
      go_wp2_with fail
      go_ret2
      exact ⟨rfl, B2.out⟩
    | true =>
      have HB := hidE (weighed_bd hq)
      rw [hq] at HWE
      cases hu : valuesB (R : Int) y with
      | false =>
        unfold bestE at hP1 hP2
        rw [if_neg (by have := HZ.out; omega), if_pos (.inr hu)] at hP1 hP2
        obtain rfl : false = P1 := hP1
        obtain rfl : (1 : Int) = P2 := hP2
        rw [hu] at HVA
        clear hq hu
        go_enter Tryz.func60, Tryz.ntmps60
        go_wp2_with fail
        refine (HCH.out).mono ?_
        rintro e w1 ⟨rfl, hb1⟩
        have x1 := blk_below hb1 (by simp) (heap_alloc_new w (.cells #[.int .i64 (R : Int), .slice a bs.length cap] 24))
        have c0_1 : w1.cell? ⟨w.heap.size, 0, none⟩ = some (.int .i64 (R : Int)) := by rw [cell_of_row _ _ _ _ _ _ x1]; rfl
        have c1_1 : w1.cell? ⟨w.heap.size, 1, none⟩ = some (.slice a bs.length cap) := by rw [cell_of_row _ _ _ _ _ _ x1]; rfl
        have l1 := lt_of_block x1
        have B1 := hidE (B0.out.trans (hb1.mono B0.out.size))
        have X1 := hidE x1
        clear hb1 x1
        go_wp2_with fail
        refine (HWE.out _ ((H2).out.below B1.out (Nat.le_refl _))).mono ?_
        rintro e w2 ⟨rfl, hb2⟩
        have x2 := blk_below hb2 l1 X1.out
        have c0_2 : w2.cell? ⟨w.heap.size, 0, none⟩ = some (.int .i64 (R : Int)) := by rw [cell_of_row _ _ _ _ _ _ x2]; rfl
        have c1_2 : w2.cell? ⟨w.heap.size, 1, none⟩ = some (.slice a bs.length cap) := by rw [cell_of_row _ _ _ _ _ _ x2]; rfl
        have l2 := lt_of_block x2
        have B2 := hidE (B1.out.trans (hb2.mono B1.out.size))
        have X2 := hidE x2
        clear hb2 x2 c0_1 c1_1
        go_wp2_with fail
        refine (HVA.out _ ((H3).out.below B2.out (Nat.le_refl _))).mono ?_
        rintro e w3 ⟨rfl, hb3⟩
        have x3 := blk_below hb3 l2 X2.out
        have c0_3 : w3.cell? ⟨w.heap.size, 0, none⟩ = some (.int .i64 (R : Int)) := by rw [cell_of_row _ _ _ _ _ _ x3]; rfl
        have c1_3 : w3.cell? ⟨w.heap.size, 1, none⟩ = some (.slice a bs.length cap) := by rw [cell_of_row _ _ _ _ _ _ x3]; rfl
        have l3 := lt_of_block x3
        have B3 := hidE (B2.out.trans (hb3.mono B2.out.size))
        have X3 := hidE x3
        clear hb3 x3 c0_2 c1_2
        go_wp2_with fail
        go_ret2
        exact ⟨rfl, B3.out⟩
      | true =>
        have HVB := hidE (valuesB_iff.1 hu)
        have hk0 := keptE_err0 HZ.out hu
        rw [hk0] at HKE
        rw [hu] at HVA
        unfold bestE at hP1 hP2
        rw [if_neg (by have := HZ.out; omega), if_neg (by simp [hq, hu])] at hP1 hP2
        obtain ⟨ix, hix⟩ : ∃ i, (keptE (R : Int) bs y).1 = i := ⟨_, rfl⟩
        obtain ⟨kp, hkp⟩ : ∃ i, (keptE (R : Int) bs y).2.1 = i := ⟨_, rfl⟩
        rw [hix, hkp] at HKE
        rw [hkp] at hP1 hP2
        clear hq hu hk0 hix hkp
        cases kp with
        | false =>
          rw [if_pos (.inl rfl)] at hP1 hP2
          obtain rfl : false = P1 := hP1
          obtain rfl : (0 : Int) = P2 := hP2
          go_enter Tryz.func60, Tryz.ntmps60
          go_wp2_with fail
          refine (HCH.out).mono ?_
          rintro e w1 ⟨rfl, hb1⟩
          have x1 := blk_below hb1 (by simp) (heap_alloc_new w (.cells #[.int .i64 (R : Int), .slice a bs.length cap] 24))
          have c0_1 : w1.cell? ⟨w.heap.size, 0, none⟩ = some (.int .i64 (R : Int)) := by rw [cell_of_row _ _ _ _ _ _ x1]; rfl
          have c1_1 : w1.cell? ⟨w.heap.size, 1, none⟩ = some (.slice a bs.length cap) := by rw [cell_of_row _ _ _ _ _ _ x1]; rfl
          have l1 := lt_of_block x1
          have B1 := hidE (B0.out.trans (hb1.mono B0.out.size))
          have X1 := hidE x1
          clear hb1 x1
          go_wp2_with fail
          refine (HWE.out _ ((H2).out.below B1.out (Nat.le_refl _))).mono ?_
          rintro e w2 ⟨rfl, hb2⟩
          have x2 := blk_below hb2 l1 X1.out
          have c0_2 : w2.cell? ⟨w.heap.size, 0, none⟩ = some (.int .i64 (R : Int)) := by rw [cell_of_row _ _ _ _ _ _ x2]; rfl
          have c1_2 : w2.cell? ⟨w.heap.size, 1, none⟩ = some (.slice a bs.length cap) := by rw [cell_of_row _ _ _ _ _ _ x2]; rfl
          have l2 := lt_of_block x2
          have B2 := hidE (B1.out.trans (hb2.mono B1.out.size))
          have X2 := hidE x2
          clear hb2 x2 c0_1 c1_1
          go_wp2_with fail
          refine (HVA.out _ ((H3).out.below B2.out (Nat.le_refl _))).mono ?_
          rintro e w3 ⟨rfl, hb3⟩
          have x3 := blk_below hb3 l2 X2.out
          have c0_3 : w3.cell? ⟨w.heap.size, 0, none⟩ = some (.int .i64 (R : Int)) := by rw [cell_of_row _ _ _ _ _ _ x3]; rfl
          have c1_3 : w3.cell? ⟨w.heap.size, 1, none⟩ = some (.slice a bs.length cap) := by rw [cell_of_row _ _ _ _ _ _ x3]; rfl
          have l3 := lt_of_block x3
          have B3 := hidE (B2.out.trans (hb3.mono B2.out.size))
          have X3 := hidE x3
          clear hb3 x3 c0_2 c1_2
          go_wp2_with fail
          refine (HKE.out _ ((H).out.below B3.out (Nat.le_refl _)) ((H3).out.below B3.out (Nat.le_refl _))).mono ?_
          rintro e w4 ⟨rfl, hb4⟩
          have x4 := blk_below hb4 l3 X3.out
          have c0_4 : w4.cell? ⟨w.heap.size, 0, none⟩ = some (.int .i64 (R : Int)) := by rw [cell_of_row _ _ _ _ _ _ x4]; rfl
          have c1_4 : w4.cell? ⟨w.heap.size, 1, none⟩ = some (.slice a bs.length cap) := by rw [cell_of_row _ _ _ _ _ _ x4]; rfl
          have l4 := lt_of_block x4
          have B4 := hidE (B3.out.trans (hb4.mono B3.out.size))
          have X4 := hidE x4
          clear hb4 x4 c0_3 c1_3
          go_wp2_with fail
          go_ret2
          exact ⟨rfl, B4.out⟩
        | true =>
          cases hf : flowingB bs.length flow with
          | false =>
            rw [if_pos (.inr hf)] at hP1 hP2
            obtain rfl : false = P1 := hP1
            obtain rfl : (0 : Int) = P2 := hP2
            rw [hf] at HFL
            clear hf
            go_enter Tryz.func60, Tryz.ntmps60
            go_wp2_with fail
            refine (HCH.out).mono ?_
            rintro e w1 ⟨rfl, hb1⟩
            have x1 := blk_below hb1 (by simp) (heap_alloc_new w (.cells #[.int .i64 (R : Int), .slice a bs.length cap] 24))
            have c0_1 : w1.cell? ⟨w.heap.size, 0, none⟩ = some (.int .i64 (R : Int)) := by rw [cell_of_row _ _ _ _ _ _ x1]; rfl
            have c1_1 : w1.cell? ⟨w.heap.size, 1, none⟩ = some (.slice a bs.length cap) := by rw [cell_of_row _ _ _ _ _ _ x1]; rfl
            have l1 := lt_of_block x1
            have B1 := hidE (B0.out.trans (hb1.mono B0.out.size))
            have X1 := hidE x1
            clear hb1 x1
            go_wp2_with fail
            refine (HWE.out _ ((H2).out.below B1.out (Nat.le_refl _))).mono ?_
            rintro e w2 ⟨rfl, hb2⟩
            have x2 := blk_below hb2 l1 X1.out
            have c0_2 : w2.cell? ⟨w.heap.size, 0, none⟩ = some (.int .i64 (R : Int)) := by rw [cell_of_row _ _ _ _ _ _ x2]; rfl
            have c1_2 : w2.cell? ⟨w.heap.size, 1, none⟩ = some (.slice a bs.length cap) := by rw [cell_of_row _ _ _ _ _ _ x2]; rfl
            have l2 := lt_of_block x2
            have B2 := hidE (B1.out.trans (hb2.mono B1.out.size))
            have X2 := hidE x2
            clear hb2 x2 c0_1 c1_1
            go_wp2_with fail
            refine (HVA.out _ ((H3).out.below B2.out (Nat.le_refl _))).mono ?_
            rintro e w3 ⟨rfl, hb3⟩
            have x3 := blk_below hb3 l2 X2.out
            have c0_3 : w3.cell? ⟨w.heap.size, 0, none⟩ = some (.int .i64 (R : Int)) := by rw [cell_of_row _ _ _ _ _ _ x3]; rfl
            have c1_3 : w3.cell? ⟨w.heap.size, 1, none⟩ = some (.slice a bs.length cap) := by rw [cell_of_row _ _ _ _ _ _ x3]; rfl
            have l3 := lt_of_block x3
            have B3 := hidE (B2.out.trans (hb3.mono B2.out.size))
            have X3 := hidE x3
            clear hb3 x3 c0_2 c1_2
            go_wp2_with fail
            refine (HKE.out _ ((H).out.below B3.out (Nat.le_refl _)) ((H3).out.below B3.out (Nat.le_refl _))).mono ?_
            rintro e w4 ⟨rfl, hb4⟩
            have x4 := blk_below hb4 l3 X3.out
            have c0_4 : w4.cell? ⟨w.heap.size, 0, none⟩ = some (.int .i64 (R : Int)) := by rw [cell_of_row _ _ _ _ _ _ x4]; rfl
            have c1_4 : w4.cell? ⟨w.heap.size, 1, none⟩ = some (.slice a bs.length cap) := by rw [cell_of_row _ _ _ _ _ _ x4]; rfl
            have l4 := lt_of_block x4
            have B4 := hidE (B3.out.trans (hb4.mono B3.out.size))
            have X4 := hidE x4
            clear hb4 x4 c0_3 c1_3
            go_wp2_with fail
            refine (HFL.out _ ((H4).out.below B4.out (Nat.le_refl _))).mono ?_
            rintro e w5 ⟨rfl, hb5⟩
            have x5 := blk_below hb5 l4 X4.out
            have c0_5 : w5.cell? ⟨w.heap.size, 0, none⟩ = some (.int .i64 (R : Int)) := by rw [cell_of_row _ _ _ _ _ _ x5]; rfl
            have c1_5 : w5.cell? ⟨w.heap.size, 1, none⟩ = some (.slice a bs.length cap) := by rw [cell_of_row _ _ _ _ _ _ x5]; rfl
            have l5 := lt_of_block x5
            have B5 := hidE (B4.out.trans (hb5.mono B4.out.size))
            have X5 := hidE x5
            clear hb5 x5 c0_4 c1_4
            go_wp2_with fail
            go_ret2
            exact ⟨rfl, B5.out⟩
          | true =>
            rw [if_neg (by simp [hf])] at hP1 hP2
            obtain rfl : (0 : Int) = P2 := hP2
            rw [hf] at HFL
            have HFB := hidE (flowing_bd hf)
            have HFO := hidE (fun W hx hy => form_any W a2 cap2 x a3 cap3 y (by have := HB.out.1; omega) (by have := HB.out.1; have := HVB.out.1; omega) hx hy HB.out.2 HVB.out.2.2)
            have HCR := hidE (fun W hb hx hf => carries_any W R a cap bs a2 cap2 x a4 cap4 flow hR2 (by omega) (by have := HB.out.1; omega) HFB.out.1 hb hx hf HV.out HFB.out.2)
            rw [Int.toNat_natCast] at hP1
            obtain ⟨c, hc⟩ : ∃ c, (carriesP R bs x flow).1 = c := ⟨_, rfl⟩
            obtain ⟨k, hk⟩ : ∃ k, (carriesP R bs x flow).2 = k := ⟨_, rfl⟩
            obtain ⟨fo, hfo⟩ : ∃ k, formP x y = k := ⟨_, rfl⟩
            rw [hc, hk] at HCR
            rw [hfo] at HFO
            simp only [hc, hk, hfo] at hP1
            have HP := hidE hP1
            clear hf hc hk hfo hP1
            go_enter Tryz.func60, Tryz.ntmps60
            go_wp2_with fail
            refine (HCH.out).mono ?_
            rintro e w1 ⟨rfl, hb1⟩
            have x1 := blk_below hb1 (by simp) (heap_alloc_new w (.cells #[.int .i64 (R : Int), .slice a bs.length cap] 24))
            have c0_1 : w1.cell? ⟨w.heap.size, 0, none⟩ = some (.int .i64 (R : Int)) := by rw [cell_of_row _ _ _ _ _ _ x1]; rfl
            have c1_1 : w1.cell? ⟨w.heap.size, 1, none⟩ = some (.slice a bs.length cap) := by rw [cell_of_row _ _ _ _ _ _ x1]; rfl
            have l1 := lt_of_block x1
            have B1 := hidE (B0.out.trans (hb1.mono B0.out.size))
            have X1 := hidE x1
            clear hb1 x1
            go_wp2_with fail
            refine (HWE.out _ ((H2).out.below B1.out (Nat.le_refl _))).mono ?_
            rintro e w2 ⟨rfl, hb2⟩
            have x2 := blk_below hb2 l1 X1.out
            have c0_2 : w2.cell? ⟨w.heap.size, 0, none⟩ = some (.int .i64 (R : Int)) := by rw [cell_of_row _ _ _ _ _ _ x2]; rfl
            have c1_2 : w2.cell? ⟨w.heap.size, 1, none⟩ = some (.slice a bs.length cap) := by rw [cell_of_row _ _ _ _ _ _ x2]; rfl
            have l2 := lt_of_block x2
            have B2 := hidE (B1.out.trans (hb2.mono B1.out.size))
            have X2 := hidE x2
            clear hb2 x2 c0_1 c1_1
            go_wp2_with fail
            refine (HVA.out _ ((H3).out.below B2.out (Nat.le_refl _))).mono ?_
            rintro e w3 ⟨rfl, hb3⟩
            have x3 := blk_below hb3 l2 X2.out
            have c0_3 : w3.cell? ⟨w.heap.size, 0, none⟩ = some (.int .i64 (R : Int)) := by rw [cell_of_row _ _ _ _ _ _ x3]; rfl
            have c1_3 : w3.cell? ⟨w.heap.size, 1, none⟩ = some (.slice a bs.length cap) := by rw [cell_of_row _ _ _ _ _ _ x3]; rfl
            have l3 := lt_of_block x3
            have B3 := hidE (B2.out.trans (hb3.mono B2.out.size))
            have X3 := hidE x3
            clear hb3 x3 c0_2 c1_2
            go_wp2_with fail
            refine (HKE.out _ ((H).out.below B3.out (Nat.le_refl _)) ((H3).out.below B3.out (Nat.le_refl _))).mono ?_
            rintro e w4 ⟨rfl, hb4⟩
            have x4 := blk_below hb4 l3 X3.out
            have c0_4 : w4.cell? ⟨w.heap.size, 0, none⟩ = some (.int .i64 (R : Int)) := by rw [cell_of_row _ _ _ _ _ _ x4]; rfl
            have c1_4 : w4.cell? ⟨w.heap.size, 1, none⟩ = some (.slice a bs.length cap) := by rw [cell_of_row _ _ _ _ _ _ x4]; rfl
            have l4 := lt_of_block x4
            have B4 := hidE (B3.out.trans (hb4.mono B3.out.size))
            have X4 := hidE x4
            clear hb4 x4 c0_3 c1_3
            go_wp2_with fail
            refine (HFL.out _ ((H4).out.below B4.out (Nat.le_refl _))).mono ?_
            rintro e w5 ⟨rfl, hb5⟩
            have x5 := blk_below hb5 l4 X4.out
            have c0_5 : w5.cell? ⟨w.heap.size, 0, none⟩ = some (.int .i64 (R : Int)) := by rw [cell_of_row _ _ _ _ _ _ x5]; rfl
            have c1_5 : w5.cell? ⟨w.heap.size, 1, none⟩ = some (.slice a bs.length cap) := by rw [cell_of_row _ _ _ _ _ _ x5]; rfl
            have l5 := lt_of_block x5
            have B5 := hidE (B4.out.trans (hb5.mono B4.out.size))
            have X5 := hidE x5
            clear hb5 x5 c0_4 c1_4
            go_wp2_with fail
            refine (HCR.out _ ((H).out.below B5.out (Nat.le_refl _)) ((H2).out.below B5.out (Nat.le_refl _)) ((H4).out.below B5.out (Nat.le_refl _))).mono ?_
            rintro e w6 ⟨rfl, hb6⟩
            have x6 := blk_below hb6 l5 X5.out
            have c0_6 : w6.cell? ⟨w.heap.size, 0, none⟩ = some (.int .i64 (R : Int)) := by rw [cell_of_row _ _ _ _ _ _ x6]; rfl
            have c1_6 : w6.cell? ⟨w.heap.size, 1, none⟩ = some (.slice a bs.length cap) := by rw [cell_of_row _ _ _ _ _ _ x6]; rfl
            have l6 := lt_of_block x6
            have B6 := hidE (B5.out.trans (hb6.mono B5.out.size))
            have X6 := hidE x6
            clear hb6 x6 c0_5 c1_5
            cases k with
            | false =>
              obtain rfl : false = P1 := by have := HP.out; simpa using this
              go_wp2_with fail
              go_ret2
              exact ⟨rfl, B6.out⟩
            | true =>
              by_cases hm : c = fo
              · have hmd : (c == fo) = true := by simpa using hm
                obtain rfl : true = P1 := by have := HP.out; simpa [hm] using this
                clear hm
                go_wp2_with fail
                refine (HFO.out _ ((H2).out.below B6.out (Nat.le_refl _)) ((H3).out.below B6.out (Nat.le_refl _))).mono ?_
                rintro e w7 ⟨rfl, rfl⟩
                go_wp2_with fail
                go_ret2
                exact ⟨rfl, B6.out⟩
              · have hmd : (c == fo) = false := by simpa using hm
                obtain rfl : false = P1 := by have := HP.out; rw [hmd] at this; exact this
                clear hm
                go_wp2_with fail
                refine (HFO.out _ ((H2).out.below B6.out (Nat.le_refl _)) ((H3).out.below B6.out (Nat.le_refl _))).mono ?_
                rintro e w7 ⟨rfl, rfl⟩
                go_wp2_with fail
                go_ret2
                exact ⟨rfl, B6.out⟩
  · have zb : (checkP N bs != 0) = true := by simpa using z
    unfold bestE at hP1 hP2
    rw [if_pos z] at hP1 hP2
    obtain rfl : false = P1 := hP1
    obtain rfl : checkP N bs = P2 := hP2
    have HCH := hidE hch
    obtain ⟨c, hc⟩ : ∃ c, checkP N bs = c := ⟨_, rfl⟩
    rw [hc] at zb HCH ⊢
    clear hch hc z
    go_enter Tryz.func60, Tryz.ntmps60
    go_wp2_with fail
    refine (HCH.out).mono ?_
    rintro e w1 ⟨rfl, hb1⟩
    have x1 := blk_below hb1 (by simp) (heap_alloc_new w (.cells #[.int .i64 N, .slice a bs.length cap] 24))
    have c0_1 : w1.cell? ⟨w.heap.size, 0, none⟩ = some (.int .i64 N) := by rw [cell_of_row _ _ _ _ _ _ x1]; rfl
    have c1_1 : w1.cell? ⟨w.heap.size, 1, none⟩ = some (.slice a bs.length cap) := by rw [cell_of_row _ _ _ _ _ _ x1]; rfl
    have l1 := lt_of_block x1
    have B1 := hidE (B0.out.trans (hb1.mono B0.out.size))
    have X1 := hidE x1
    clear hb1 x1
    go_wp2_with fail
    go_ret2
    exact ⟨rfl, B1.out⟩
end Go.Proofs.YthjmkmjojlfejaaGreat

namespace Go.Proofs.YthjmkmjojlfejaaGreat
theorem asked_noNeg {n : Nat} {bs : List Bd} {w : List Int} (h : askedA n bs w = 0) : NoNeg bs := by
  obtain ⟨m, e, m1, m2, m3, m4, _⟩ := asked0_parts h
  obtain rfl : n = m := by omega
  unfold askedA at h
  split at h
  · rename_i h1; exact absurd h h1
  · rename_i h1
    split at h
    · cases h
    · simp only [ne_eq, Decidable.not_not] at h1
      unfold consP consistentE at h
      rw [if_pos h1] at h
      simp only [ne_eq, not_true_eq_false, if_false] at h
      cases ho : (openedP (n : Nat) bs).isSome with
      | true => exact (openedP_iff m2 m4).1 ho
      | false =>
        rw [ho] at h
        simp at h
theorem asked_of {n : Nat} {bs : List Bd} {w y : List Int} (hc : checkP n bs = 0) (hw : weighedB n w = true) (k : Keeps n bs y) : askedA n bs w = 0 := by
  obtain ⟨m, e, m1, m2, m3, m4⟩ := allOk_of hc
  obtain rfl : n = m := by omega
  have hv : AllValid n bs := fun b hb => (m4 b hb).1
  have ho := (openedP_iff m2 hv).2 (noNeg_of_pot k.pot)
  unfold askedA
  rw [if_neg (by omega), if_neg (by rw [hw]; simp)]
  unfold consP consistentE
  rw [if_pos hc]
  simp [ho]
theorem flowing_pos {m : Nat} {fl : List Int} (h : flowingB m fl = true) : fl.length = m ∧ ∀ j : Nat, 0 ≤ fl.getD j 0 ∧ fl.getD j 0 ≤ 1000000000 := by
  unfold flowingB at h
  simp only [Bool.and_eq_true, decide_eq_true_eq, List.all_eq_true] at h
  refine ⟨h.1, fun j => ?_⟩
  by_cases hj : j < fl.length
  · have := h.2 _ (List.getElem_mem hj)
    rw [List.getD_eq_getElem?_getD, List.getElem?_eq_getElem hj]
    unfold inR at this
    simpa using this
  · rw [List.getD_eq_getElem?_getD, List.getElem?_eq_none (by omega)]; simp
theorem flowing_of {m : Nat} {fl : List Int} (hl : fl.length = m) (h : ∀ j : Nat, 0 ≤ fl.getD j 0 ∧ fl.getD j 0 ≤ 1000000000) : flowingB m fl = true := by
  unfold flowingB
  simp only [Bool.and_eq_true, decide_eq_true_eq, List.all_eq_true]
  refine ⟨hl, fun x hx => ?_⟩
  obtain ⟨j, hj, rfl⟩ := List.getElem_of_mem hx
  have := h j
  rw [List.getD_eq_getElem?_getD, List.getElem?_eq_getElem hj] at this
  unfold inR
  simpa using this
theorem carries_iff {n : Nat} {bs : List Bd} {w fl : List Int} : (carriesP n bs w fl).2 = true ↔ ∀ v : Nat, 1 ≤ v → v < n → netOf bs fl v = w.getD v 0 := by
  have key : carriedTo bs fl w n = true ↔ ∀ v : Nat, 1 ≤ v → v < n → netOf bs fl v = w.getD v 0 := by
    unfold carriedTo
    rw [List.all_eq_true]
    constructor
    · intro h v h1 h2
      have := h v (List.mem_range.2 h2)
      simp only [Bool.or_eq_true, beq_iff_eq] at this
      rcases this with q | q
      · omega
      · exact q
    · intro h v hv
      simp only [Bool.or_eq_true, beq_iff_eq]
      by_cases e : v = 0
      · exact .inl e
      · exact .inr (h v (by omega) (List.mem_range.1 hv))
  unfold carriesP
  split
  · rename_i h; exact ⟨fun _ => key.1 h, fun _ => rfl⟩
  · rename_i h; exact ⟨fun e => (by cases e), fun e => absurd (key.2 e) h⟩
theorem carries_cost {n : Nat} {bs : List Bd} {w fl : List Int} (h : (carriesP n bs w fl).2 = true) : (carriesP n bs w fl).1 = costOf bs fl := by
  unfold carriesP at h ⊢
  split
  · rfl
  · rename_i e; rw [if_neg e] at h; cases h
theorem BestOk.carry {N : Nat} {bs : List Bd} {w y fl : List Int} (h : BestOk N bs w y fl) : Carry N bs w fl := ⟨fun j => (h.fb j).1, h.net⟩
theorem BestOk.values {N : Nat} {bs : List Bd} {w y fl : List Int} (h : BestOk N bs w y fl) : valuesB N y = true := valuesB_iff.2 ⟨h.yl, h.y0, fun v hv => by
  obtain ⟨j, e⟩ := mem_getD hv
  have := h.yb j
  omega⟩
theorem BestOk.keeps {N : Nat} {bs : List Bd} {w y fl : List Int} (h : BestOk N bs w y fl) : Keeps N bs y := ⟨h.yl, h.y0, fun v hv => by
  obtain ⟨j, e⟩ := mem_getD hv
  have := h.yb j
  omega, fun b hb => by have := h.kept b hb; omega⟩
theorem BestOk.flowing {N : Nat} {bs : List Bd} {w y fl : List Int} (h : BestOk N bs w y fl) : flowingB bs.length fl = true := flowing_of h.fl fun j => by have := h.fb j; omega
theorem BestOk.form {N : Nat} {bs : List Bd} {w y fl : List Int} (h : BestOk N bs w y fl) (hl : w.length = N) : costOf bs fl = formP w y := by
  rw [h.cost]; unfold formP; rw [hl]
/-- What a right system with right weights brings: the greatest and the least form, where there are some. -/
structure Ends (n : Nat) (bs : List Bd) (w : List Int) (f : Nat) (R : Option BestR) (g : Nat) (S : Option BestR) : Prop where
  hi : BestRun n bs w f R
  ho : ∀ r, R = some r → BestOk n bs w r.y r.flow ∧ r.n = formP w r.y
  lo : BestRun n bs (w.map (-·)) g S
  lk : ∀ r, S = some r → BestOk n bs (w.map (-·)) r.y r.flow ∧ r.n = formP (w.map (-·)) r.y
theorem map_neg_getD (w : List Int) (v : Nat) : (w.map (-·)).getD v 0 = -w.getD v 0 := by
  simp only [List.getD_eq_getElem?_getD, List.getElem?_map]
  cases w[v]? <;> simp
theorem form_neg (w y : List Int) : formP (w.map (-·)) y = -formP w y := by
  unfold formP
  rw [List.length_map]
  have := sumN_mul (-1) (fun i => w.getD i 0 * y.getD i 0) w.length
  rw [show (-1 : Int) * sumN (fun i => w.getD i 0 * y.getD i 0) w.length = -sumN (fun i => w.getD i 0 * y.getD i 0) w.length by omega] at this
  rw [← this]
  refine sumN_congr fun i _ => ?_
  rw [map_neg_getD, Int.neg_mul, Int.neg_mul, Int.one_mul]
theorem asked_bd {n : Nat} {bs : List Bd} {w : List Int} (h : askedA n bs w = 0) : 1 ≤ n ∧ n ≤ 128 ∧ AllValid n bs ∧ w.length = n ∧ ∀ v : Nat, -1000000 ≤ w.getD v 0 ∧ w.getD v 0 ≤ 1000000 := by
  obtain ⟨m, e, m1, m2, m3, m4, m5, m6⟩ := asked0_parts h
  obtain rfl : n = m := by omega
  refine ⟨m1, m2, m4, m5, fun v => ?_⟩
  by_cases hv : v < w.length
  · rw [List.getD_eq_getElem?_getD, List.getElem?_eq_getElem hv]
    exact m6 _ (List.getElem_mem hv)
  · rw [List.getD_eq_getElem?_getD, List.getElem?_eq_none (by omega)]; simp
theorem ends_of {n : Nat} {bs : List Bd} {w : List Int} (h : askedA n bs w = 0) : ∃ f R g S, Ends n bs w f R g S := by
  obtain ⟨m1, m2, m4, m5, m6⟩ := asked_bd h
  have hn := asked_noNeg h
  obtain ⟨f, R, a, b⟩ := best_total m1 m2 m4 hn m6 m5
  obtain ⟨g, S, c, d⟩ := best_total (w := w.map (-·)) m1 m2 m4 hn (fun v => by rw [map_neg_getD]; have := m6 v; omega) (by rw [List.length_map]; exact m5)
  exact ⟨f, R, g, S, a, b, c, d⟩
/-- Forms of values that keep the system: at most the greatest, at least the least. -/
theorem Ends.between {n : Nat} {bs : List Bd} {w : List Int} {f g : Nat} {R S : Option BestR} (h : askedA n bs w = 0) (E : Ends n bs w f R g S) {y : List Int} (k : Keeps n bs y) :
    (∀ r, R = some r → formP w y ≤ r.n) ∧ (∀ r, S = some r → -r.n ≤ formP w y) := by
  obtain ⟨m1, m2, m4, m5, m6⟩ := asked_bd h
  have hy : ∀ b ∈ bs, getI y b.dst - getI y b.src ≤ b.most := fun b hb => by have := k.pot b hb; omega
  constructor
  · intro r e
    obtain ⟨b, e2⟩ := E.ho r e
    have := dual m1 m4 m5 k.zero hy b.carry
    rw [b.form m5] at this
    omega
  · intro r e
    obtain ⟨b, e2⟩ := E.lk r e
    have := dual m1 m4 (by rw [List.length_map]; exact m5) k.zero hy b.carry
    rw [b.form (by rw [List.length_map]; exact m5), form_neg, ← e2] at this
    omega
/-- What the law AreaDual looks at. -/
theorem dual_high {n : Nat} {bs : List Bd} {w fl : List Int} {f g : Nat} {R S : Option BestR} {most : Int} (hc : checkP n bs = 0) (hw : weighedB n w = true) (h : askedA n bs w = 0) (E : Ends n bs w f R g S) {r : BestR} (e : R = some r) :
    bestE n bs w r.y r.flow = (true, 0) ∧ formE n bs w r.y = (r.n, 0) ∧ ((flowE n bs w fl most).1 = true → r.n ≤ most) := by
  obtain ⟨m1, m2, m4, m5, m6⟩ := asked_bd h
  obtain ⟨b, e2⟩ := E.ho r e
  have hcar : (carriesP n bs w r.flow).2 = true := carries_iff.2 b.net
  refine ⟨?_, ?_, ?_⟩
  · unfold bestE
    rw [if_neg (by omega), if_neg (by rw [hw, b.values]; simp), if_neg (by rw [(keptE_iff hc).2 b.keeps, b.flowing]; simp)]
    rw [Int.toNat_natCast, hcar, carries_cost hcar, b.form m5]
    simp
  · unfold formE
    rw [if_neg (by omega), if_neg (by rw [hw, b.values]; simp), e2]
  · intro hs
    unfold flowE at hs
    rw [if_neg (by omega), if_neg (by rw [hw]; simp)] at hs
    split at hs
    · cases hs
    · rename_i hfl
      rw [Int.toNat_natCast] at hs
      simp only [Bool.and_eq_true, decide_eq_true_eq] at hs
      have hfl2 := flowing_pos (by simpa using hfl)
      have := dual m1 m4 m5 b.y0 b.kept ⟨fun j => (hfl2.2 j).1, carries_iff.1 hs.1⟩
      rw [carries_cost hs.1] at hs
      omega
theorem dual_kept {n : Nat} {bs : List Bd} {w y fl : List Int} {most : Int} (hf : (formE n bs w y).2 = 0) (hk : (keptE n bs y).2.1 = true) : checkP n bs = 0 ∧ weighedB n w = true ∧ Keeps n bs y ∧ askedA n bs w = 0 ∧ (formE n bs w y).1 = formP w y ∧ (flowE n bs w fl most).2 = 0 ∧ (bestE n bs w y fl).2 = 0 := by
  have hc : checkP n bs = 0 := (keptE_bad hk).2
  have hK := (keptE_iff hc).1 hk
  unfold formE at hf ⊢
  rw [if_neg (by omega)] at hf ⊢
  split at hf
  · cases hf
  · rename_i hwv
    have hw : weighedB n w = true := by cases e : weighedB (n : Int) w with
      | true => rfl
      | false => exact absurd (.inl e) hwv
    have hv : valuesB n y = true := by cases e : valuesB (n : Int) y with
      | true => rfl
      | false => exact absurd (.inr e) hwv
    rw [if_neg hwv]
    refine ⟨hc, hw, hK, asked_of hc hw hK, rfl, ?_, ?_⟩
    · unfold flowE
      rw [if_neg (by omega), if_neg (by rw [hw]; simp)]
      split <;> rfl
    · unfold bestE
      rw [if_neg (by omega), if_neg hwv]
      split <;> rfl
theorem dual_low {n : Nat} {bs : List Bd} {w y fl : List Int} {f g : Nat} {R S : Option BestR} {most : Int} (hf : (formE n bs w y).2 = 0) (hk : (keptE n bs y).2.1 = true) (E : Ends n bs w f R g S) :
    ((flowE n bs w fl most).1 = true → (formE n bs w y).1 ≤ most) ∧ ((bestE n bs w y fl).1 = true → ∃ r, R = some r ∧ (formE n bs w y).1 = r.n) ∧ (∀ r, R = some r → (formE n bs w y).1 ≤ r.n) ∧ (∀ r, S = some r → -r.n ≤ (formE n bs w y).1) := by
  obtain ⟨hc, hw, hK, h, e, _, _⟩ := dual_kept (fl := fl) (most := most) hf hk
  obtain ⟨m1, m2, m4, m5, m6⟩ := asked_bd h
  have hy : ∀ b ∈ bs, getI y b.dst - getI y b.src ≤ b.most := fun b hb => by have := hK.pot b hb; omega
  have hbt := E.between h hK
  rw [e]
  refine ⟨fun hs => ?_, fun hs => ?_, hbt.1, hbt.2⟩
  · unfold flowE at hs
    rw [if_neg (by omega), if_neg (by rw [hw]; simp)] at hs
    split at hs
    · cases hs
    · rename_i hfl
      rw [Int.toNat_natCast] at hs
      simp only [Bool.and_eq_true, decide_eq_true_eq] at hs
      have hfl2 := flowing_pos (by simpa using hfl)
      have := dual m1 m4 m5 hK.zero hy ⟨fun j => (hfl2.2 j).1, carries_iff.1 hs.1⟩
      rw [carries_cost hs.1] at hs
      omega
  · unfold bestE at hs
    rw [if_neg (by omega)] at hs
    split at hs
    · cases hs
    · split at hs
      · cases hs
      · rename_i hfl
        have hfl1 : flowingB bs.length fl = true := by cases q : flowingB bs.length fl with
          | true => rfl
          | false => exact absurd (.inr q) hfl
        rw [Int.toNat_natCast] at hs
        simp only [Bool.and_eq_true, beq_iff_eq] at hs
        have hfl2 := flowing_pos hfl1
        have hnet := carries_iff.1 hs.1
        obtain ⟨r, hr⟩ := bestRun_some m1 m2 m4 (asked_noNeg h) m6 E.hi (fun j => (hfl2.2 j).1) hnet
        obtain ⟨b, e2⟩ := E.ho r hr
        have h3 := dual m1 m4 m5 b.y0 b.kept ⟨fun j => (hfl2.2 j).1, hnet⟩
        have h4 := hbt.1 r hr
        rw [carries_cost hs.1] at hs
        exact ⟨r, hr, by omega⟩
theorem dual_err {N : Int} {bs : List Bd} {w y fl : List Int} (hf : (formE N bs w y).2 ≠ 0) : (bestE N bs w y fl).1 = false := by
  unfold formE at hf
  unfold bestE
  split at hf
  · rename_i h; rw [if_pos h]
  · rename_i h
    rw [if_neg h]
    split at hf
    · rename_i h2; rw [if_pos h2]
    · exact absurd rfl hf
end Go.Proofs.YthjmkmjojlfejaaGreat

namespace Go.Proofs.YthjmkmjojlfejaaGreat
open Go Go.RowKit Go.Shelf
/-- Few variables and bounds, or far too many. -/
def fewA (N : Int) (m : Nat) : Bool := (decide ((m : Int) ≤ 70) && (decide (N ≤ 26) || decide (N > 128))) || (decide ((m : Int) > 2000) && decide ((m : Int) ≤ 2005))
set_option maxHeartbeats 4000000 in
theorem fewA_any (w : World) (N : Int) (a : Option Addr) (n cap : Nat) (hn : n ≤ 9223372036854775807) :
    Calls Tryz.prog 21 #[.agg #[.int .i64 N, .slice a n cap]] w fun e w' => e = .returned (.bool (fewA N n)) ∧ Below w.heap.size w w' := by
  have B0 := hidE (show Below w.heap.size w (w.alloc (.cells #[.int .i64 N, .slice a n cap] 24)) from (Below.refl _ _).alloc (Nat.le_refl _) _)
  obtain ⟨P, hP⟩ : ∃ P, fewA N n = P := ⟨_, rfl⟩
  rw [hP]
  unfold fewA at hP
  by_cases h1 : n ≤ 70
  · by_cases h2 : N ≤ 26
    · have f0 : decide ((n : Int) ≤ 70) = true := by simp; omega
      have f1 : decide (n ≤ 70) = true := by simp; omega
      have f2 : decide (N ≤ 26) = true := by simp; omega
      have HP := hidE (show true = P by rw [← hP]; simp [h2, show (n : Int) ≤ 70 by omega] <;> omega)
      clear hP
      go_enter Tryz.func21, Tryz.ntmps21
      go_wp2_with fail
      go_ret
      exact ⟨by rw [← HP.out]; rfl, B0.out⟩
    · by_cases h3 : 128 < N
      · have f0 : decide ((n : Int) ≤ 70) = true := by simp; omega
        have f1 : decide (n ≤ 70) = true := by simp; omega
        have f2 : decide (N ≤ 26) = false := by simp; omega
        have f3 : decide (N > 128) = true := by simp; omega
        have f4 : decide (128 < N) = true := by simp; omega
        have HP := hidE (show true = P by rw [← hP]; simp [h3, show (n : Int) ≤ 70 by omega] <;> omega)
        clear hP
        go_enter Tryz.func21, Tryz.ntmps21
        go_wp2_with fail
        go_ret
        exact ⟨by rw [← HP.out]; rfl, B0.out⟩
      · have f0 : decide ((n : Int) ≤ 70) = true := by simp; omega
        have f1 : decide (n ≤ 70) = true := by simp; omega
        have f2 : decide (N ≤ 26) = false := by simp; omega
        have f3 : decide (N > 128) = false := by simp; omega
        have f4 : decide (128 < N) = false := by simp; omega
        have f5 : decide ((n : Int) > 2000) = false := by simp; omega
        have f6 : decide (2000 < n) = false := by simp; omega
        have HP := hidE (show false = P by rw [← hP]; simp [h2, h3] <;> omega)
        clear hP
        go_enter Tryz.func21, Tryz.ntmps21
        go_wp2_with fail
        go_ret
        exact ⟨by rw [← HP.out]; rfl, B0.out⟩
  · by_cases h2 : 2000 < n
    · by_cases h3 : n ≤ 2005
      · have f0 : decide ((n : Int) ≤ 70) = false := by simp; omega
        have f1 : decide (n ≤ 70) = false := by simp; omega
        have f2 : decide ((n : Int) > 2000) = true := by simp; omega
        have f3 : decide (2000 < n) = true := by simp; omega
        have f4 : decide ((n : Int) ≤ 2005) = true := by simp; omega
        have f5 : decide (n ≤ 2005) = true := by simp; omega
        have HP := hidE (show true = P by rw [← hP]; simp [show (n : Int) ≤ 2005 by omega, show 2000 < (n : Int) by omega] <;> omega)
        clear hP
        go_enter Tryz.func21, Tryz.ntmps21
        go_wp2_with fail
        go_ret
        exact ⟨by rw [← HP.out]; rfl, B0.out⟩
      · have f0 : decide ((n : Int) ≤ 70) = false := by simp; omega
        have f1 : decide (n ≤ 70) = false := by simp; omega
        have f2 : decide ((n : Int) > 2000) = true := by simp; omega
        have f3 : decide (2000 < n) = true := by simp; omega
        have f4 : decide ((n : Int) ≤ 2005) = false := by simp; omega
        have f5 : decide (n ≤ 2005) = false := by simp; omega
        have HP := hidE (show false = P by rw [← hP]; simp [show ¬ (n : Int) ≤ 2005 by omega, show ¬ (n : Int) ≤ 70 by omega] <;> omega)
        clear hP
        go_enter Tryz.func21, Tryz.ntmps21
        go_wp2_with fail
        go_ret
        exact ⟨by rw [← HP.out]; rfl, B0.out⟩
    · have f0 : decide ((n : Int) ≤ 70) = false := by simp; omega
      have f1 : decide (n ≤ 70) = false := by simp; omega
      have f2 : decide ((n : Int) > 2000) = false := by simp; omega
      have f3 : decide (2000 < n) = false := by simp; omega
      have HP := hidE (show false = P by rw [← hP]; simp [show ¬ (n : Int) ≤ 70 by omega] <;> omega)
      clear hP
      go_enter Tryz.func21, Tryz.ntmps21
      go_wp2_with fail
      go_ret
      exact ⟨by rw [← HP.out]; rfl, B0.out⟩
end Go.Proofs.YthjmkmjojlfejaaGreat

namespace Go.Proofs.YthjmkmjojlfejaaGreat
open Go Go.RowKit Go.Shelf
/-- Least, for the law: a number, and whether it is one. -/
def LowP (N : Int) (bs : List Bd) (wt y : List Int) (e : Ending) : Prop := ∃ lo j : Int, ∃ zv dv : Value, e = .returned (.tuple #[.int .i64 lo, zv, dv, .int .i64 j]) ∧ Hid (j = 0 → (formE N bs wt y).2 = 0 → (keptE N bs y).2.1 = true → lo ≤ (formE N bs wt y).1)
theorem lowP_any (w : World) (N : Int) (a : Option Addr) (cap : Nat) (bs : List Bd) (a2 : Option Addr) (cap2 : Nat) (wt y : List Int) (hN : i64ok N) (hl : bs.length ≤ 9223372036854775807) (hl2 : wt.length ≤ 9223372036854775807) (h : BoundsAt w a bs) (h2 : IntsAt w a2 wt) :
    Calls Tryz.prog 25 #[.agg #[.int .i64 N, .slice a bs.length cap], .slice a2 wt.length cap2] w fun e w' => LowP N bs wt y e ∧ Below w.heap.size w w' := by
  by_cases hz : askedA N bs wt = 0
  · obtain ⟨n, rfl, _⟩ := asked0_parts hz
    obtain ⟨f, R, g, S, E⟩ := ends_of hz
    have H := least_any w n a cap bs a2 cap2 wt g S hN hl hl2 h h2 (fun _ => E.lo)
    refine H.mono fun e w' ⟨p, q⟩ => ⟨?_, q⟩
    unfold LeastPost at p
    rw [if_neg (by simp [hz])] at p
    cases S with
    | none => exact ⟨0, 50, _, _, p, hidE (fun e => by cases e)⟩
    | some s =>
      obtain ⟨gy, gF, e1, _⟩ := p
      exact ⟨_, 0, _, _, e1, hidE (fun _ hf hk => (dual_low (fl := []) (most := 0) hf hk E).2.2.2 s rfl)⟩
  · have H := least_any w N a cap bs a2 cap2 wt 0 none hN hl hl2 h h2 (fun e => absurd e hz)
    refine H.mono fun e w' ⟨p, q⟩ => ⟨?_, q⟩
    unfold LeastPost at p
    rw [if_pos hz] at p
    exact ⟨0, _, _, _, p, hidE (fun e => absurd e hz)⟩
/-- Greatest, for the law. -/
def HighP (N : Int) (bs : List Bd) (wt y fl : List Int) (most : Int) (e : Ending) (w' : World) : Prop :=
  (∃ i : Int, i ≠ 0 ∧ e = .returned (.tuple #[.int .i64 0, .slice none 0 0, .slice none 0 0, .int .i64 i]) ∧ ((formE N bs wt y).2 = 0 → (keptE N bs y).2.1 = true → (bestE N bs wt y fl).1 = false)) ∨
  ∃ (hi : Int) (oz : Option Addr) (cz : Nat) (z : List Int) (of : Option Addr) (cf : Nat) (up : List Int), e = .returned (.tuple #[.int .i64 hi, .slice oz z.length cz, .slice of up.length cf, .int .i64 0]) ∧ Hid (IntsAt w' oz z) ∧ Hid (IntsAt w' of up) ∧ z.length ≤ 9223372036854775807 ∧ up.length ≤ 9223372036854775807 ∧
    bestE N bs wt z up = (true, 0) ∧ formE N bs wt z = (hi, 0) ∧ ((flowE N bs wt fl most).1 = true → hi ≤ most) ∧ ((formE N bs wt y).2 = 0 → (keptE N bs y).2.1 = true → (formE N bs wt y).1 ≤ hi ∧ ((bestE N bs wt y fl).1 = true → (formE N bs wt y).1 = hi))
theorem highP_any (w : World) (N : Int) (a : Option Addr) (cap : Nat) (bs : List Bd) (a2 : Option Addr) (cap2 : Nat) (wt y fl : List Int) (most : Int) (hN : i64ok N) (hl : bs.length ≤ 9223372036854775807) (hl2 : wt.length ≤ 9223372036854775807) (h : BoundsAt w a bs) (h2 : IntsAt w a2 wt) :
    Calls Tryz.prog 23 #[.agg #[.int .i64 N, .slice a bs.length cap], .slice a2 wt.length cap2] w fun e w' => HighP N bs wt y fl most e w' ∧ Below w.heap.size w w' := by
  by_cases hz : askedA N bs wt = 0
  · obtain ⟨n, rfl, _⟩ := asked0_parts hz
    obtain ⟨f, R, g, S, E⟩ := ends_of hz
    have hc : checkP n bs = 0 := by
      unfold askedA at hz
      split at hz
      · rename_i h1; exact absurd hz h1
      · rename_i h1; exact Classical.not_not.1 h1
    have hw : weighedB n wt = true := by
      unfold askedA at hz
      rw [if_neg (by omega)] at hz
      cases q : weighedB (n : Int) wt with
      | true => rfl
      | false => rw [if_pos q] at hz; cases hz
    have H := greatest_any w n a cap bs a2 cap2 wt f R hN hl hl2 h h2 (fun _ => E.hi)
    refine H.mono fun e w' ⟨p, q⟩ => ⟨?_, q⟩
    unfold GreatPost at p
    rw [if_neg (by simp [hz])] at p
    cases R with
    | none =>
      refine .inl ⟨50, by decide, p, fun hf hk => ?_⟩
      cases hb : (bestE n bs wt y fl).1 with
      | false => rfl
      | true =>
        obtain ⟨r, e2, _⟩ := (dual_low (most := 0) hf hk E).2.1 hb
        cases e2
    | some r =>
      obtain ⟨gy, gF, e1, _, _, _, p4, p5⟩ := p
      obtain ⟨d1, d2, d3⟩ := dual_high (fl := fl) (most := most) hc hw hz E rfl
      obtain ⟨b, _⟩ := E.ho r rfl
      obtain ⟨m1, m2, m4, m5, m6⟩ := asked_bd hz
      refine .inr ⟨r.n, _, _, r.y, _, _, r.flow, e1, hidE (ints_of_row p4), hidE (ints_of_row p5), by have := b.yl; omega, by have := b.fl; omega, d1, d2, d3, fun hf hk => ?_⟩
      obtain ⟨_, l2, l3, _⟩ := dual_low (fl := fl) (most := most) hf hk E
      refine ⟨l3 r rfl, fun hb => ?_⟩
      obtain ⟨r2, e2, e3⟩ := l2 hb
      cases e2
      exact e3
  · have H := greatest_any w N a cap bs a2 cap2 wt 0 none hN hl hl2 h h2 (fun e => absurd e hz)
    refine H.mono fun e w' ⟨p, q⟩ => ⟨?_, q⟩
    unfold GreatPost at p
    rw [if_pos hz] at p
    refine .inl ⟨_, hz, p, fun hf hk => ?_⟩
    have hc : checkP N bs = 0 := (keptE_bad hk).2
    obtain ⟨n, rfl, _⟩ := allOk_of hc
    exact absurd (dual_kept (fl := []) (most := 0) hf hk).2.2.2.1 hz
set_option maxRecDepth 100000 in
set_option maxHeartbeats 64000000 in
theorem areaDual_of (hal : AliveOk) (w : World) (N : Int) (a : Option Addr) (cap : Nat) (bs : List Bd) (a2 : Option Addr) (cap2 : Nat) (wt : List Int) (a3 : Option Addr) (cap3 : Nat) (y : List Int) (a4 : Option Addr) (cap4 : Nat) (fl : List Int) (most : Int) (hN : i64ok N) (hl : bs.length ≤ 9223372036854775807) (h : BoundsAt w a bs) (hl2 : wt.length ≤ 9223372036854775807) (h2 : IntsAt w a2 wt) (hl3 : y.length ≤ 9223372036854775807) (h3 : IntsAt w a3 y) (hl4 : fl.length ≤ 9223372036854775807) (h4 : IntsAt w a4 fl) :
    Calls Tryz.prog 18 #[.agg #[.int .i64 N, .slice a bs.length cap], .slice a2 wt.length cap2, .slice a3 y.length cap3, .slice a4 fl.length cap4, .int .i64 most] w fun e w' => e = .returned (.bool true) ∧ Below w.heap.size w w' := by
  have HAL := hidE hal
  obtain ⟨W0, hW0⟩ : ∃ W0, W0 = w.alloc (.cells #[.int .i64 N, .slice a bs.length cap] 24) := ⟨_, rfl⟩
  have BB0 : Hid (Below w.heap.size w W0) := hidE (by rw [hW0]; exact (Below.refl _ _).alloc (Nat.le_refl _) _)
  have SS0 : Hid (BoundsAt W0 a bs) := hidE (by rw [hW0]; exact h.alloc _)
  have II0 : Hid (IntsAt W0 a2 wt) := hidE (by rw [hW0]; exact h2.alloc _)
  have JJ0 : Hid (IntsAt W0 a3 y) := hidE (by rw [hW0]; exact h3.alloc _)
  have KK0 : Hid (IntsAt W0 a4 fl) := hidE (by rw [hW0]; exact h4.alloc _)
  have XS0 : Hid (W0.heap[w.heap.size]? = some (.cells #[.int .i64 N, .slice a bs.length cap] 24 (0,0))) := hidE (by rw [hW0]; exact heap_alloc_new _ _)
  have HFE := hidE (fun W (p : BoundsAt W a bs) (q : IntsAt W a2 wt) (r : IntsAt W a3 y) => formE_any W N a cap bs a2 cap2 wt a3 cap3 y hN hl p hl2 q hl3 r)
  have HKE := hidE (fun W (p : BoundsAt W a bs) (r : IntsAt W a3 y) => kept_any W N a cap bs a3 cap3 y hN hl hl3 p r)
  have HFL := hidE (fun W (p : BoundsAt W a bs) (q : IntsAt W a2 wt) (r : IntsAt W a4 fl) => checkFlow_any W N a cap bs a2 cap2 wt a4 cap4 fl most hN hl p hl2 q hl4 r)
  have HBE := hidE (fun W (p : BoundsAt W a bs) (q : IntsAt W a2 wt) (r : IntsAt W a3 y) (s : IntsAt W a4 fl) => checkBest_any W N a cap bs a2 cap2 wt a3 cap3 y a4 cap4 fl hN hl p hl2 q hl3 r hl4 s)
  have HHI := hidE (fun W (p : BoundsAt W a bs) (q : IntsAt W a2 wt) => highP_any W N a cap bs a2 cap2 wt y fl most hN hl hl2 p q)
  have HLO := hidE (fun W (p : BoundsAt W a bs) (q : IntsAt W a2 wt) => lowP_any W N a cap bs a2 cap2 wt y hN hl hl2 p q)
  have HB2 := hidE (fun W oz cz (z : List Int) (of : Option Addr) cf (up : List Int) (hz : z.length ≤ 9223372036854775807) (hu : up.length ≤ 9223372036854775807) (p : BoundsAt W a bs) (q : IntsAt W a2 wt) (r : IntsAt W oz z) (s : IntsAt W of up) => checkBest_any W N a cap bs a2 cap2 wt oz cz z of cf up hN hl p hl2 q hz r hu s)
  have HF2 := hidE (fun W oz cz (z : List Int) (hz : z.length ≤ 9223372036854775807) (p : BoundsAt W a bs) (q : IntsAt W a2 wt) (r : IntsAt W oz z) => formE_any W N a cap bs a2 cap2 wt oz cz z hN hl p hl2 q hz r)
  have HFW := hidE (fun W => fewA_any W N a bs.length cap hl)
  have hgood : (formE N bs wt y).2 = 0 → (keptE N bs y).2.1 = true → (flowE N bs wt fl most).2 = 0 ∧ (bestE N bs wt y fl).2 = 0 ∧ ((flowE N bs wt fl most).1 = true → (formE N bs wt y).1 ≤ most) := fun hf hk => by
    have hc : checkP N bs = 0 := (keptE_bad hk).2
    obtain ⟨n, rfl, _⟩ := allOk_of hc
    obtain ⟨_, _, _, hz, _, g1, g2⟩ := dual_kept (fl := fl) (most := most) hf hk
    obtain ⟨f, R, g, S, E⟩ := ends_of hz
    exact ⟨g1, g2, (dual_low (fl := fl) (most := most) hf hk E).1⟩
  have herr := fun q => dual_err (N := N) (bs := bs) (w := wt) (y := y) (fl := fl) q
  have hks : (keptE N bs y).2.1 = true → (keptE N bs y).2.2 = 0 := fun q => (keptE_bad q).1
  clear hal h h2 h3 h4
  by_cases hp : fewA N bs.length = false
  · rw [hp] at HFW
    go_enter Tryz.func18, Tryz.ntmps18
    go_upto_region 1 with fail
    rw [← hW0]
    clear hW0
    have f0 : W0.cell? ⟨w.heap.size, 0, none⟩ = some (.int .i64 N) := by rw [cell_of_row _ _ _ _ _ _ XS0.out]; rfl
    have f1 : W0.cell? ⟨w.heap.size, 1, none⟩ = some (.slice a bs.length cap) := by rw [cell_of_row _ _ _ _ _ _ XS0.out]; rfl
    have HC := hidE (HFW.out W0)
    go_wp2_with fail
    refine HC.out.mono ?_
    rintro e W1 ⟨rfl, hbx⟩
    clear HC f0 f1
    have hb : Below W0.heap.size W0 W1 := hbx
    have BB1 : Hid (Below w.heap.size w W1) := hidE (BB0.out.trans (hb.mono BB0.out.size))
    have SS1 : Hid (BoundsAt W1 a bs) := hidE (SS0.out.below hb (Nat.le_refl _))
    have II1 : Hid (IntsAt W1 a2 wt) := hidE (II0.out.below hb (Nat.le_refl _))
    have JJ1 : Hid (IntsAt W1 a3 y) := hidE (JJ0.out.below hb (Nat.le_refl _))
    have KK1 : Hid (IntsAt W1 a4 fl) := hidE (KK0.out.below hb (Nat.le_refl _))
    have XS1 : Hid (W1.heap[w.heap.size]? = some (.cells #[.int .i64 N, .slice a bs.length cap] 24 (0,0))) := hidE (blk_below hb (lt_of_block XS0.out) XS0.out)
    clear hb BB0 SS0 II0 JJ0 KK0 XS0
    clear hbx
    go_wp2_with fail
    refine (HAL.out _).mono ?_
    rintro e w9 ⟨rfl, hb9⟩
    have B9 := hidE (BB1.out.trans (hb9.mono BB1.out.size))
    clear hb9
    go_wp2_with fail
    go_ret
    exact ⟨by simp, B9.out⟩
  have hp2 : fewA N bs.length = true := by simpa using hp
  rw [hp2] at HFW
  clear hp hp2
  by_cases hv1 : 200 < wt.length
  · have hd : decide ((wt.length : Int) > 200) = true := by simp; omega
    have hd' : decide (200 < wt.length) = true := by simp; omega
    go_enter Tryz.func18, Tryz.ntmps18
    go_upto_region 1 with fail
    rw [← hW0]
    clear hW0
    have f0 : W0.cell? ⟨w.heap.size, 0, none⟩ = some (.int .i64 N) := by rw [cell_of_row _ _ _ _ _ _ XS0.out]; rfl
    have f1 : W0.cell? ⟨w.heap.size, 1, none⟩ = some (.slice a bs.length cap) := by rw [cell_of_row _ _ _ _ _ _ XS0.out]; rfl
    have HC := hidE (HFW.out W0)
    go_wp2_with fail
    refine HC.out.mono ?_
    rintro e W1 ⟨rfl, hbx⟩
    clear HC f0 f1
    have hb : Below W0.heap.size W0 W1 := hbx
    have BB1 : Hid (Below w.heap.size w W1) := hidE (BB0.out.trans (hb.mono BB0.out.size))
    have SS1 : Hid (BoundsAt W1 a bs) := hidE (SS0.out.below hb (Nat.le_refl _))
    have II1 : Hid (IntsAt W1 a2 wt) := hidE (II0.out.below hb (Nat.le_refl _))
    have JJ1 : Hid (IntsAt W1 a3 y) := hidE (JJ0.out.below hb (Nat.le_refl _))
    have KK1 : Hid (IntsAt W1 a4 fl) := hidE (KK0.out.below hb (Nat.le_refl _))
    have XS1 : Hid (W1.heap[w.heap.size]? = some (.cells #[.int .i64 N, .slice a bs.length cap] 24 (0,0))) := hidE (blk_below hb (lt_of_block XS0.out) XS0.out)
    clear hb BB0 SS0 II0 JJ0 KK0 XS0
    clear hbx
    go_wp2_with fail
    refine (HAL.out _).mono ?_
    rintro e w9 ⟨rfl, hb9⟩
    have B9 := hidE (BB1.out.trans (hb9.mono BB1.out.size))
    clear hb9
    go_wp2_with fail
    go_ret
    exact ⟨by simp, B9.out⟩
  have hd1 : decide ((wt.length : Int) > 200) = false := by simp; omega
  have hd1' : decide (200 < wt.length) = false := by simp; omega
  by_cases hv2 : 200 < y.length
  · have hd : decide ((y.length : Int) > 200) = true := by simp; omega
    have hd' : decide (200 < y.length) = true := by simp; omega
    go_enter Tryz.func18, Tryz.ntmps18
    go_upto_region 1 with fail
    rw [← hW0]
    clear hW0
    have f0 : W0.cell? ⟨w.heap.size, 0, none⟩ = some (.int .i64 N) := by rw [cell_of_row _ _ _ _ _ _ XS0.out]; rfl
    have f1 : W0.cell? ⟨w.heap.size, 1, none⟩ = some (.slice a bs.length cap) := by rw [cell_of_row _ _ _ _ _ _ XS0.out]; rfl
    have HC := hidE (HFW.out W0)
    go_wp2_with fail
    refine HC.out.mono ?_
    rintro e W1 ⟨rfl, hbx⟩
    clear HC f0 f1
    have hb : Below W0.heap.size W0 W1 := hbx
    have BB1 : Hid (Below w.heap.size w W1) := hidE (BB0.out.trans (hb.mono BB0.out.size))
    have SS1 : Hid (BoundsAt W1 a bs) := hidE (SS0.out.below hb (Nat.le_refl _))
    have II1 : Hid (IntsAt W1 a2 wt) := hidE (II0.out.below hb (Nat.le_refl _))
    have JJ1 : Hid (IntsAt W1 a3 y) := hidE (JJ0.out.below hb (Nat.le_refl _))
    have KK1 : Hid (IntsAt W1 a4 fl) := hidE (KK0.out.below hb (Nat.le_refl _))
    have XS1 : Hid (W1.heap[w.heap.size]? = some (.cells #[.int .i64 N, .slice a bs.length cap] 24 (0,0))) := hidE (blk_below hb (lt_of_block XS0.out) XS0.out)
    clear hb BB0 SS0 II0 JJ0 KK0 XS0
    clear hbx
    go_wp2_with fail
    refine (HAL.out _).mono ?_
    rintro e w9 ⟨rfl, hb9⟩
    have B9 := hidE (BB1.out.trans (hb9.mono BB1.out.size))
    clear hb9
    go_wp2_with fail
    go_ret
    exact ⟨by simp, B9.out⟩
  have hd2 : decide ((y.length : Int) > 200) = false := by simp; omega
  have hd2' : decide (200 < y.length) = false := by simp; omega
  by_cases hv3 : 80 < fl.length
  · have hd : decide ((fl.length : Int) > 80) = true := by simp; omega
    have hd' : decide (80 < fl.length) = true := by simp; omega
    go_enter Tryz.func18, Tryz.ntmps18
    go_upto_region 1 with fail
    rw [← hW0]
    clear hW0
    have f0 : W0.cell? ⟨w.heap.size, 0, none⟩ = some (.int .i64 N) := by rw [cell_of_row _ _ _ _ _ _ XS0.out]; rfl
    have f1 : W0.cell? ⟨w.heap.size, 1, none⟩ = some (.slice a bs.length cap) := by rw [cell_of_row _ _ _ _ _ _ XS0.out]; rfl
    have HC := hidE (HFW.out W0)
    go_wp2_with fail
    refine HC.out.mono ?_
    rintro e W1 ⟨rfl, hbx⟩
    clear HC f0 f1
    have hb : Below W0.heap.size W0 W1 := hbx
    have BB1 : Hid (Below w.heap.size w W1) := hidE (BB0.out.trans (hb.mono BB0.out.size))
    have SS1 : Hid (BoundsAt W1 a bs) := hidE (SS0.out.below hb (Nat.le_refl _))
    have II1 : Hid (IntsAt W1 a2 wt) := hidE (II0.out.below hb (Nat.le_refl _))
    have JJ1 : Hid (IntsAt W1 a3 y) := hidE (JJ0.out.below hb (Nat.le_refl _))
    have KK1 : Hid (IntsAt W1 a4 fl) := hidE (KK0.out.below hb (Nat.le_refl _))
    have XS1 : Hid (W1.heap[w.heap.size]? = some (.cells #[.int .i64 N, .slice a bs.length cap] 24 (0,0))) := hidE (blk_below hb (lt_of_block XS0.out) XS0.out)
    clear hb BB0 SS0 II0 JJ0 KK0 XS0
    clear hbx
    go_wp2_with fail
    refine (HAL.out _).mono ?_
    rintro e w9 ⟨rfl, hb9⟩
    have B9 := hidE (BB1.out.trans (hb9.mono BB1.out.size))
    clear hb9
    go_wp2_with fail
    go_ret
    exact ⟨by simp, B9.out⟩
  have hd3 : decide ((fl.length : Int) > 80) = false := by simp; omega
  have hd3' : decide (80 < fl.length) = false := by simp; omega
  clear hv1 hv2 hv3
  obtain ⟨e1, he1⟩ : ∃ z, (formE N bs wt y).1 = z := ⟨_, rfl⟩
  obtain ⟨e2, he2⟩ : ∃ z, (formE N bs wt y).2 = z := ⟨_, rfl⟩
  obtain ⟨k1, hk1⟩ : ∃ z, (keptE N bs y).1 = z := ⟨_, rfl⟩
  obtain ⟨k2, hk2⟩ : ∃ z, (keptE N bs y).2.1 = z := ⟨_, rfl⟩
  obtain ⟨k3, hk3⟩ : ∃ z, (keptE N bs y).2.2 = z := ⟨_, rfl⟩
  obtain ⟨s1, hs1⟩ : ∃ z, (flowE N bs wt fl most).1 = z := ⟨_, rfl⟩
  obtain ⟨s2, hs2⟩ : ∃ z, (flowE N bs wt fl most).2 = z := ⟨_, rfl⟩
  obtain ⟨b1, hb1⟩ : ∃ z, (bestE N bs wt y fl).1 = z := ⟨_, rfl⟩
  obtain ⟨b2, hb2⟩ : ∃ z, (bestE N bs wt y fl).2 = z := ⟨_, rfl⟩
  rw [he1, he2] at HFE
  rw [hk1, hk2, hk3] at HKE
  rw [hs1, hs2] at HFL
  rw [hb1, hb2] at HBE
  rw [he1, he2, hk2, hs1, hs2, hb2] at hgood
  rw [he2, hb1] at herr
  rw [hk2, hk3] at hks
  have HGD := hidE hgood
  have HER := hidE herr
  have HKS := hidE hks
  have HV := hidE (And.intro he1 (And.intro he2 (And.intro hk2 (And.intro hs1 hb1))))
  clear hgood herr hks he1 he2 hk1 hk2 hk3 hs1 hs2 hb1 hb2
  go_enter Tryz.func18, Tryz.ntmps18
  go_upto_region 1 with fail
  rw [← hW0]
  clear hW0
  have f0 : W0.cell? ⟨w.heap.size, 0, none⟩ = some (.int .i64 N) := by rw [cell_of_row _ _ _ _ _ _ XS0.out]; rfl
  have f1 : W0.cell? ⟨w.heap.size, 1, none⟩ = some (.slice a bs.length cap) := by rw [cell_of_row _ _ _ _ _ _ XS0.out]; rfl
  have HC := hidE (HFW.out W0)
  go_wp2_with fail
  refine HC.out.mono ?_
  rintro e W1 ⟨rfl, hbx⟩
  clear HC f0 f1
  have hb : Below W0.heap.size W0 W1 := hbx
  have BB1 : Hid (Below w.heap.size w W1) := hidE (BB0.out.trans (hb.mono BB0.out.size))
  have SS1 : Hid (BoundsAt W1 a bs) := hidE (SS0.out.below hb (Nat.le_refl _))
  have II1 : Hid (IntsAt W1 a2 wt) := hidE (II0.out.below hb (Nat.le_refl _))
  have JJ1 : Hid (IntsAt W1 a3 y) := hidE (JJ0.out.below hb (Nat.le_refl _))
  have KK1 : Hid (IntsAt W1 a4 fl) := hidE (KK0.out.below hb (Nat.le_refl _))
  have XS1 : Hid (W1.heap[w.heap.size]? = some (.cells #[.int .i64 N, .slice a bs.length cap] 24 (0,0))) := hidE (blk_below hb (lt_of_block XS0.out) XS0.out)
  clear hb BB0 SS0 II0 JJ0 KK0 XS0
  clear hbx
  have f0 : W1.cell? ⟨w.heap.size, 0, none⟩ = some (.int .i64 N) := by rw [cell_of_row _ _ _ _ _ _ XS1.out]; rfl
  have f1 : W1.cell? ⟨w.heap.size, 1, none⟩ = some (.slice a bs.length cap) := by rw [cell_of_row _ _ _ _ _ _ XS1.out]; rfl
  have HC := hidE (HFE.out W1 SS1.out II1.out JJ1.out)
  go_wp2_with fail
  refine HC.out.mono ?_
  rintro e W2 ⟨rfl, hbx⟩
  clear HC f0 f1
  have hb : Below W1.heap.size W1 W2 := hbx
  have BB2 : Hid (Below w.heap.size w W2) := hidE (BB1.out.trans (hb.mono BB1.out.size))
  have SS2 : Hid (BoundsAt W2 a bs) := hidE (SS1.out.below hb (Nat.le_refl _))
  have II2 : Hid (IntsAt W2 a2 wt) := hidE (II1.out.below hb (Nat.le_refl _))
  have JJ2 : Hid (IntsAt W2 a3 y) := hidE (JJ1.out.below hb (Nat.le_refl _))
  have KK2 : Hid (IntsAt W2 a4 fl) := hidE (KK1.out.below hb (Nat.le_refl _))
  have XS2 : Hid (W2.heap[w.heap.size]? = some (.cells #[.int .i64 N, .slice a bs.length cap] 24 (0,0))) := hidE (blk_below hb (lt_of_block XS1.out) XS1.out)
  clear hb BB1 SS1 II1 JJ1 KK1 XS1
  clear hbx
  have f0 : W2.cell? ⟨w.heap.size, 0, none⟩ = some (.int .i64 N) := by rw [cell_of_row _ _ _ _ _ _ XS2.out]; rfl
  have f1 : W2.cell? ⟨w.heap.size, 1, none⟩ = some (.slice a bs.length cap) := by rw [cell_of_row _ _ _ _ _ _ XS2.out]; rfl
  have HC := hidE (HKE.out W2 SS2.out JJ2.out)
  go_wp2_with fail
  refine HC.out.mono ?_
  rintro e W3 ⟨rfl, hbx⟩
  clear HC f0 f1
  have hb : Below W2.heap.size W2 W3 := hbx
  have BB3 : Hid (Below w.heap.size w W3) := hidE (BB2.out.trans (hb.mono BB2.out.size))
  have SS3 : Hid (BoundsAt W3 a bs) := hidE (SS2.out.below hb (Nat.le_refl _))
  have II3 : Hid (IntsAt W3 a2 wt) := hidE (II2.out.below hb (Nat.le_refl _))
  have JJ3 : Hid (IntsAt W3 a3 y) := hidE (JJ2.out.below hb (Nat.le_refl _))
  have KK3 : Hid (IntsAt W3 a4 fl) := hidE (KK2.out.below hb (Nat.le_refl _))
  have XS3 : Hid (W3.heap[w.heap.size]? = some (.cells #[.int .i64 N, .slice a bs.length cap] 24 (0,0))) := hidE (blk_below hb (lt_of_block XS2.out) XS2.out)
  clear hb BB2 SS2 II2 JJ2 KK2 XS2
  clear hbx
  have f0 : W3.cell? ⟨w.heap.size, 0, none⟩ = some (.int .i64 N) := by rw [cell_of_row _ _ _ _ _ _ XS3.out]; rfl
  have f1 : W3.cell? ⟨w.heap.size, 1, none⟩ = some (.slice a bs.length cap) := by rw [cell_of_row _ _ _ _ _ _ XS3.out]; rfl
  have HC := hidE (HFL.out W3 SS3.out II3.out KK3.out)
  go_wp2_with fail
  refine HC.out.mono ?_
  rintro e W4 ⟨rfl, hbx⟩
  clear HC f0 f1
  have hb : Below W3.heap.size W3 W4 := hbx
  have BB4 : Hid (Below w.heap.size w W4) := hidE (BB3.out.trans (hb.mono BB3.out.size))
  have SS4 : Hid (BoundsAt W4 a bs) := hidE (SS3.out.below hb (Nat.le_refl _))
  have II4 : Hid (IntsAt W4 a2 wt) := hidE (II3.out.below hb (Nat.le_refl _))
  have JJ4 : Hid (IntsAt W4 a3 y) := hidE (JJ3.out.below hb (Nat.le_refl _))
  have KK4 : Hid (IntsAt W4 a4 fl) := hidE (KK3.out.below hb (Nat.le_refl _))
  have XS4 : Hid (W4.heap[w.heap.size]? = some (.cells #[.int .i64 N, .slice a bs.length cap] 24 (0,0))) := hidE (blk_below hb (lt_of_block XS3.out) XS3.out)
  clear hb BB3 SS3 II3 JJ3 KK3 XS3
  clear hbx
  have f0 : W4.cell? ⟨w.heap.size, 0, none⟩ = some (.int .i64 N) := by rw [cell_of_row _ _ _ _ _ _ XS4.out]; rfl
  have f1 : W4.cell? ⟨w.heap.size, 1, none⟩ = some (.slice a bs.length cap) := by rw [cell_of_row _ _ _ _ _ _ XS4.out]; rfl
  have HC := hidE (HBE.out W4 SS4.out II4.out JJ4.out KK4.out)
  go_wp2_with fail
  refine HC.out.mono ?_
  rintro e W5 ⟨rfl, hbx⟩
  clear HC f0 f1
  have hb : Below W4.heap.size W4 W5 := hbx
  have BB5 : Hid (Below w.heap.size w W5) := hidE (BB4.out.trans (hb.mono BB4.out.size))
  have SS5 : Hid (BoundsAt W5 a bs) := hidE (SS4.out.below hb (Nat.le_refl _))
  have II5 : Hid (IntsAt W5 a2 wt) := hidE (II4.out.below hb (Nat.le_refl _))
  have JJ5 : Hid (IntsAt W5 a3 y) := hidE (JJ4.out.below hb (Nat.le_refl _))
  have KK5 : Hid (IntsAt W5 a4 fl) := hidE (KK4.out.below hb (Nat.le_refl _))
  have XS5 : Hid (W5.heap[w.heap.size]? = some (.cells #[.int .i64 N, .slice a bs.length cap] 24 (0,0))) := hidE (blk_below hb (lt_of_block XS4.out) XS4.out)
  clear hb BB4 SS4 II4 JJ4 KK4 XS4
  clear hbx
  clear HFE HKE HFL HBE HFW
  have f0 : W5.cell? ⟨w.heap.size, 0, none⟩ = some (.int .i64 N) := by rw [cell_of_row _ _ _ _ _ _ XS5.out]; rfl
  have f1 : W5.cell? ⟨w.heap.size, 1, none⟩ = some (.slice a bs.length cap) := by rw [cell_of_row _ _ _ _ _ _ XS5.out]; rfl
  have HC := hidE (HHI.out W5 SS5.out II5.out)
  go_wp2_with fail
  refine HC.out.mono ?_
  rintro e W6 ⟨hhp, hbx⟩
  clear HC f0 f1
  have hb : Below W5.heap.size W5 W6 := hbx
  have BB6 : Hid (Below w.heap.size w W6) := hidE (BB5.out.trans (hb.mono BB5.out.size))
  have SS6 : Hid (BoundsAt W6 a bs) := hidE (SS5.out.below hb (Nat.le_refl _))
  have II6 : Hid (IntsAt W6 a2 wt) := hidE (II5.out.below hb (Nat.le_refl _))
  have JJ6 : Hid (IntsAt W6 a3 y) := hidE (JJ5.out.below hb (Nat.le_refl _))
  have KK6 : Hid (IntsAt W6 a4 fl) := hidE (KK5.out.below hb (Nat.le_refl _))
  have XS6 : Hid (W6.heap[w.heap.size]? = some (.cells #[.int .i64 N, .slice a bs.length cap] 24 (0,0))) := hidE (blk_below hb (lt_of_block XS5.out) XS5.out)
  clear hb BB5 SS5 II5 JJ5 KK5 XS5
  clear hbx
  unfold HighP at hhp
  rw [HV.out.1, HV.out.2.1, HV.out.2.2.1, HV.out.2.2.2.1, HV.out.2.2.2.2] at hhp
  clear HHI
  rcases hhp with ⟨i, hi0, rfl, hbn⟩ | ⟨hi, oz, cz, z, of, cf, up, rfl, HZ, HU, lz, lu, d1, d2, d3, d4⟩
  · have i0 : (i == 0) = false := by simpa using hi0
    have i1 : (i != 0) = true := by simpa using hi0
    have HBN := hidE hbn
    clear hi0 hbn
    have f0 : W6.cell? ⟨w.heap.size, 0, none⟩ = some (.int .i64 N) := by rw [cell_of_row _ _ _ _ _ _ XS6.out]; rfl
    have f1 : W6.cell? ⟨w.heap.size, 1, none⟩ = some (.slice a bs.length cap) := by rw [cell_of_row _ _ _ _ _ _ XS6.out]; rfl
    have HC := hidE (HLO.out W6 SS6.out II6.out)
    go_wp2_with fail
    refine HC.out.mono ?_
    rintro e W7 ⟨⟨lo, lj, zv, dv, rfl, HLW⟩, hbx⟩
    clear HC f0 f1
    have hb : Below W6.heap.size W6 W7 := hbx
    have BB7 : Hid (Below w.heap.size w W7) := hidE (BB6.out.trans (hb.mono BB6.out.size))
    have SS7 : Hid (BoundsAt W7 a bs) := hidE (SS6.out.below hb (Nat.le_refl _))
    have II7 : Hid (IntsAt W7 a2 wt) := hidE (II6.out.below hb (Nat.le_refl _))
    have JJ7 : Hid (IntsAt W7 a3 y) := hidE (JJ6.out.below hb (Nat.le_refl _))
    have KK7 : Hid (IntsAt W7 a4 fl) := hidE (KK6.out.below hb (Nat.le_refl _))
    have XS7 : Hid (W7.heap[w.heap.size]? = some (.cells #[.int .i64 N, .slice a bs.length cap] 24 (0,0))) := hidE (blk_below hb (lt_of_block XS6.out) XS6.out)
    clear hb BB6 SS6 II6 JJ6 KK6 XS6
    clear hbx
    rw [HV.out.1, HV.out.2.1, HV.out.2.2.1] at HLW
    clear HLO
    by_cases ce : e2 = 0
    rotate_left
    · have c0 : (e2 != 0) = true := by simpa using ce
      have c1 : (e2 == 0) = false := by simpa using ce
      obtain rfl := HER.out ce
      clear ce
      go_wp2_with fail
      refine (HAL.out _).mono ?_
      rintro e w9 ⟨rfl, hb9⟩
      have B9 := hidE (BB7.out.trans (hb9.mono BB7.out.size))
      clear hb9
      go_wp2_with fail
      go_ret
      exact ⟨by simp, B9.out⟩
    subst ce
    by_cases ck : k2 = true
    rotate_left
    · obtain rfl : k2 = false := by simpa using ck
      clear ck
      by_cases c3 : k3 = 0
      · subst c3
        go_wp2_with fail
        refine (HAL.out _).mono ?_
        rintro e w9 ⟨rfl, hb9⟩
        have B9 := hidE (BB7.out.trans (hb9.mono BB7.out.size))
        clear hb9
        go_wp2_with fail
        go_ret
        exact ⟨by simp, B9.out⟩
      · have c4 : (k3 != 0) = true := by simpa using c3
        clear c3
        go_wp2_with fail
        refine (HAL.out _).mono ?_
        rintro e w9 ⟨rfl, hb9⟩
        have B9 := hidE (BB7.out.trans (hb9.mono BB7.out.size))
        clear hb9
        go_wp2_with fail
        go_ret
        exact ⟨by simp, B9.out⟩
    subst ck
    obtain rfl := HKS.out rfl
    obtain ⟨rfl, rfl, q3⟩ := HGD.out rfl rfl
    obtain rfl := HBN.out rfl rfl
    cases s1 with
    | true =>
      have q4 := q3 rfl
      have q5 : decide (e1 > most) = false := by simp; omega
      have q5' : decide (most < e1) = false := by simp; omega
      clear q3 q4
      by_cases cj : lj = 0
      · have l1 := HLW.out cj rfl rfl
        have l2 : decide (e1 ≥ lo) = true := by simpa using l1
        have l2' : decide (lo ≤ e1) = true := by simpa using l1
        subst cj
        clear l1
        go_wp2_with fail
        refine (HAL.out _).mono ?_
        rintro e w9 ⟨rfl, hb9⟩
        have B9 := hidE (BB7.out.trans (hb9.mono BB7.out.size))
        clear hb9
        go_wp2_with fail
        go_ret
        exact ⟨by simp, B9.out⟩
      · have l2 : (lj != 0) = true := by simpa using cj
        clear cj
        go_wp2_with fail
        refine (HAL.out _).mono ?_
        rintro e w9 ⟨rfl, hb9⟩
        have B9 := hidE (BB7.out.trans (hb9.mono BB7.out.size))
        clear hb9
        go_wp2_with fail
        go_ret
        exact ⟨by simp, B9.out⟩
    | false =>
      clear q3
      by_cases cj : lj = 0
      · have l1 := HLW.out cj rfl rfl
        have l2 : decide (e1 ≥ lo) = true := by simpa using l1
        have l2' : decide (lo ≤ e1) = true := by simpa using l1
        subst cj
        clear l1
        go_wp2_with fail
        refine (HAL.out _).mono ?_
        rintro e w9 ⟨rfl, hb9⟩
        have B9 := hidE (BB7.out.trans (hb9.mono BB7.out.size))
        clear hb9
        go_wp2_with fail
        go_ret
        exact ⟨by simp, B9.out⟩
      · have l2 : (lj != 0) = true := by simpa using cj
        clear cj
        go_wp2_with fail
        refine (HAL.out _).mono ?_
        rintro e w9 ⟨rfl, hb9⟩
        have B9 := hidE (BB7.out.trans (hb9.mono BB7.out.size))
        clear hb9
        go_wp2_with fail
        go_ret
        exact ⟨by simp, B9.out⟩
  · have D1 := hidE d1
    have D2 := hidE d2
    have D4 := hidE d4
    clear d1 d2 d4
    have HZ6 : Hid (IntsAt W6 oz z) := HZ
    have HU6 : Hid (IntsAt W6 of up) := HU
    clear HZ HU
    have f0 : W6.cell? ⟨w.heap.size, 0, none⟩ = some (.int .i64 N) := by rw [cell_of_row _ _ _ _ _ _ XS6.out]; rfl
    have f1 : W6.cell? ⟨w.heap.size, 1, none⟩ = some (.slice a bs.length cap) := by rw [cell_of_row _ _ _ _ _ _ XS6.out]; rfl
    have HC := hidE (HLO.out W6 SS6.out II6.out)
    go_wp2_with fail
    refine HC.out.mono ?_
    rintro e W7 ⟨⟨lo, lj, zv, dv, rfl, HLW⟩, hbx⟩
    clear HC f0 f1
    have hb : Below W6.heap.size W6 W7 := hbx
    have BB7 : Hid (Below w.heap.size w W7) := hidE (BB6.out.trans (hb.mono BB6.out.size))
    have SS7 : Hid (BoundsAt W7 a bs) := hidE (SS6.out.below hb (Nat.le_refl _))
    have II7 : Hid (IntsAt W7 a2 wt) := hidE (II6.out.below hb (Nat.le_refl _))
    have JJ7 : Hid (IntsAt W7 a3 y) := hidE (JJ6.out.below hb (Nat.le_refl _))
    have KK7 : Hid (IntsAt W7 a4 fl) := hidE (KK6.out.below hb (Nat.le_refl _))
    have XS7 : Hid (W7.heap[w.heap.size]? = some (.cells #[.int .i64 N, .slice a bs.length cap] 24 (0,0))) := hidE (blk_below hb (lt_of_block XS6.out) XS6.out)
    have HZ7 : Hid (IntsAt W7 oz z) := hidE (HZ6.out.below hb (Nat.le_refl _))
    have HU7 : Hid (IntsAt W7 of up) := hidE (HU6.out.below hb (Nat.le_refl _))
    clear hb BB6 SS6 II6 JJ6 KK6 XS6 HZ6 HU6
    clear hbx
    rw [HV.out.1, HV.out.2.1, HV.out.2.2.1] at HLW
    clear HLO
    have f0 : W7.cell? ⟨w.heap.size, 0, none⟩ = some (.int .i64 N) := by rw [cell_of_row _ _ _ _ _ _ XS7.out]; rfl
    have f1 : W7.cell? ⟨w.heap.size, 1, none⟩ = some (.slice a bs.length cap) := by rw [cell_of_row _ _ _ _ _ _ XS7.out]; rfl
    have hc := HB2.out W7 oz cz z of cf up lz lu SS7.out II7.out HZ7.out HU7.out
    rw [D1.out] at hc
    have HC := hidE (hc)
    go_wp2_with fail
    refine HC.out.mono ?_
    rintro e W8 ⟨rfl, hbx⟩
    clear HC f0 f1 hc
    have hb : Below W7.heap.size W7 W8 := hbx
    have BB8 : Hid (Below w.heap.size w W8) := hidE (BB7.out.trans (hb.mono BB7.out.size))
    have SS8 : Hid (BoundsAt W8 a bs) := hidE (SS7.out.below hb (Nat.le_refl _))
    have II8 : Hid (IntsAt W8 a2 wt) := hidE (II7.out.below hb (Nat.le_refl _))
    have JJ8 : Hid (IntsAt W8 a3 y) := hidE (JJ7.out.below hb (Nat.le_refl _))
    have KK8 : Hid (IntsAt W8 a4 fl) := hidE (KK7.out.below hb (Nat.le_refl _))
    have XS8 : Hid (W8.heap[w.heap.size]? = some (.cells #[.int .i64 N, .slice a bs.length cap] 24 (0,0))) := hidE (blk_below hb (lt_of_block XS7.out) XS7.out)
    have HZ8 : Hid (IntsAt W8 oz z) := hidE (HZ7.out.below hb (Nat.le_refl _))
    have HU8 : Hid (IntsAt W8 of up) := hidE (HU7.out.below hb (Nat.le_refl _))
    clear hb BB7 SS7 II7 JJ7 KK7 XS7 HZ7 HU7
    clear hbx
    have f0 : W8.cell? ⟨w.heap.size, 0, none⟩ = some (.int .i64 N) := by rw [cell_of_row _ _ _ _ _ _ XS8.out]; rfl
    have f1 : W8.cell? ⟨w.heap.size, 1, none⟩ = some (.slice a bs.length cap) := by rw [cell_of_row _ _ _ _ _ _ XS8.out]; rfl
    have hc := HF2.out W8 oz cz z lz SS8.out II8.out HZ8.out
    rw [D2.out] at hc
    have HC := hidE (hc)
    go_wp2_with fail
    refine HC.out.mono ?_
    rintro e W9 ⟨rfl, hbx⟩
    clear HC f0 f1 hc
    have hb : Below W8.heap.size W8 W9 := hbx
    have BB9 : Hid (Below w.heap.size w W9) := hidE (BB8.out.trans (hb.mono BB8.out.size))
    have SS9 : Hid (BoundsAt W9 a bs) := hidE (SS8.out.below hb (Nat.le_refl _))
    have II9 : Hid (IntsAt W9 a2 wt) := hidE (II8.out.below hb (Nat.le_refl _))
    have JJ9 : Hid (IntsAt W9 a3 y) := hidE (JJ8.out.below hb (Nat.le_refl _))
    have KK9 : Hid (IntsAt W9 a4 fl) := hidE (KK8.out.below hb (Nat.le_refl _))
    have XS9 : Hid (W9.heap[w.heap.size]? = some (.cells #[.int .i64 N, .slice a bs.length cap] 24 (0,0))) := hidE (blk_below hb (lt_of_block XS8.out) XS8.out)
    have HZ9 : Hid (IntsAt W9 oz z) := hidE (HZ8.out.below hb (Nat.le_refl _))
    have HU9 : Hid (IntsAt W9 of up) := hidE (HU8.out.below hb (Nat.le_refl _))
    clear hb BB8 SS8 II8 JJ8 KK8 XS8 HZ8 HU8
    clear hbx
    have n0 : (hi != hi) = false := by simp
    clear HB2 HF2
    cases s1 with
    | true =>
      have r1 : decide (hi > most) = false := by have := d3 rfl; simp; omega
      have r1' : decide (most < hi) = false := by have := d3 rfl; simp; omega
      clear d3
      by_cases ce : e2 = 0
      rotate_left
      · have c0 : (e2 != 0) = true := by simpa using ce
        have c1 : (e2 == 0) = false := by simpa using ce
        obtain rfl := HER.out ce
        clear ce
        go_wp2_with fail
        refine (HAL.out _).mono ?_
        rintro e w9 ⟨rfl, hb9⟩
        have B9 := hidE (BB9.out.trans (hb9.mono BB9.out.size))
        clear hb9
        go_wp2_with fail
        go_ret
        exact ⟨by simp, B9.out⟩
      subst ce
      by_cases ck : k2 = true
      rotate_left
      · obtain rfl : k2 = false := by simpa using ck
        clear ck
        by_cases c3 : k3 = 0
        · subst c3
          go_wp2_with fail
          refine (HAL.out _).mono ?_
          rintro e w9 ⟨rfl, hb9⟩
          have B9 := hidE (BB9.out.trans (hb9.mono BB9.out.size))
          clear hb9
          go_wp2_with fail
          go_ret
          exact ⟨by simp, B9.out⟩
        · have c4 : (k3 != 0) = true := by simpa using c3
          clear c3
          go_wp2_with fail
          refine (HAL.out _).mono ?_
          rintro e w9 ⟨rfl, hb9⟩
          have B9 := hidE (BB9.out.trans (hb9.mono BB9.out.size))
          clear hb9
          go_wp2_with fail
          go_ret
          exact ⟨by simp, B9.out⟩
      subst ck
      obtain rfl := HKS.out rfl
      obtain ⟨rfl, rfl, q3⟩ := HGD.out rfl rfl
      obtain ⟨d5, d6⟩ := D4.out rfl rfl
      have r2 : decide (e1 ≤ hi) = true := by simpa using d5
      have q4 := q3 rfl
      have q5 : decide (e1 > most) = false := by simp; omega
      have q5' : decide (most < e1) = false := by simp; omega
      clear q4
      clear q3
      cases b1 with
      | true =>
        have d7 := d6 rfl
        have r3 : (e1 != hi) = false := by simpa using d7
        clear d5 d6 d7
        by_cases cj : lj = 0
        · have l1 := HLW.out cj rfl rfl
          have l2 : decide (e1 ≥ lo) = true := by simpa using l1
          have l2' : decide (lo ≤ e1) = true := by simpa using l1
          subst cj
          clear l1
          go_wp2_with fail
          refine (HAL.out _).mono ?_
          rintro e w9 ⟨rfl, hb9⟩
          have B9 := hidE (BB9.out.trans (hb9.mono BB9.out.size))
          clear hb9
          go_wp2_with fail
          go_ret
          exact ⟨by simp, B9.out⟩
        · have l2 : (lj != 0) = true := by simpa using cj
          clear cj
          go_wp2_with fail
          refine (HAL.out _).mono ?_
          rintro e w9 ⟨rfl, hb9⟩
          have B9 := hidE (BB9.out.trans (hb9.mono BB9.out.size))
          clear hb9
          go_wp2_with fail
          go_ret
          exact ⟨by simp, B9.out⟩
      | false =>
        clear d5 d6
        by_cases cj : lj = 0
        · have l1 := HLW.out cj rfl rfl
          have l2 : decide (e1 ≥ lo) = true := by simpa using l1
          have l2' : decide (lo ≤ e1) = true := by simpa using l1
          subst cj
          clear l1
          go_wp2_with fail
          refine (HAL.out _).mono ?_
          rintro e w9 ⟨rfl, hb9⟩
          have B9 := hidE (BB9.out.trans (hb9.mono BB9.out.size))
          clear hb9
          go_wp2_with fail
          go_ret
          exact ⟨by simp, B9.out⟩
        · have l2 : (lj != 0) = true := by simpa using cj
          clear cj
          go_wp2_with fail
          refine (HAL.out _).mono ?_
          rintro e w9 ⟨rfl, hb9⟩
          have B9 := hidE (BB9.out.trans (hb9.mono BB9.out.size))
          clear hb9
          go_wp2_with fail
          go_ret
          exact ⟨by simp, B9.out⟩
    | false =>
      clear d3
      by_cases ce : e2 = 0
      rotate_left
      · have c0 : (e2 != 0) = true := by simpa using ce
        have c1 : (e2 == 0) = false := by simpa using ce
        obtain rfl := HER.out ce
        clear ce
        go_wp2_with fail
        refine (HAL.out _).mono ?_
        rintro e w9 ⟨rfl, hb9⟩
        have B9 := hidE (BB9.out.trans (hb9.mono BB9.out.size))
        clear hb9
        go_wp2_with fail
        go_ret
        exact ⟨by simp, B9.out⟩
      subst ce
      by_cases ck : k2 = true
      rotate_left
      · obtain rfl : k2 = false := by simpa using ck
        clear ck
        by_cases c3 : k3 = 0
        · subst c3
          go_wp2_with fail
          refine (HAL.out _).mono ?_
          rintro e w9 ⟨rfl, hb9⟩
          have B9 := hidE (BB9.out.trans (hb9.mono BB9.out.size))
          clear hb9
          go_wp2_with fail
          go_ret
          exact ⟨by simp, B9.out⟩
        · have c4 : (k3 != 0) = true := by simpa using c3
          clear c3
          go_wp2_with fail
          refine (HAL.out _).mono ?_
          rintro e w9 ⟨rfl, hb9⟩
          have B9 := hidE (BB9.out.trans (hb9.mono BB9.out.size))
          clear hb9
          go_wp2_with fail
          go_ret
          exact ⟨by simp, B9.out⟩
      subst ck
      obtain rfl := HKS.out rfl
      obtain ⟨rfl, rfl, q3⟩ := HGD.out rfl rfl
      obtain ⟨d5, d6⟩ := D4.out rfl rfl
      have r2 : decide (e1 ≤ hi) = true := by simpa using d5
      clear q3
      cases b1 with
      | true =>
        have d7 := d6 rfl
        have r3 : (e1 != hi) = false := by simpa using d7
        clear d5 d6 d7
        by_cases cj : lj = 0
        · have l1 := HLW.out cj rfl rfl
          have l2 : decide (e1 ≥ lo) = true := by simpa using l1
          have l2' : decide (lo ≤ e1) = true := by simpa using l1
          subst cj
          clear l1
          go_wp2_with fail
          refine (HAL.out _).mono ?_
          rintro e w9 ⟨rfl, hb9⟩
          have B9 := hidE (BB9.out.trans (hb9.mono BB9.out.size))
          clear hb9
          go_wp2_with fail
          go_ret
          exact ⟨by simp, B9.out⟩
        · have l2 : (lj != 0) = true := by simpa using cj
          clear cj
          go_wp2_with fail
          refine (HAL.out _).mono ?_
          rintro e w9 ⟨rfl, hb9⟩
          have B9 := hidE (BB9.out.trans (hb9.mono BB9.out.size))
          clear hb9
          go_wp2_with fail
          go_ret
          exact ⟨by simp, B9.out⟩
      | false =>
        clear d5 d6
        by_cases cj : lj = 0
        · have l1 := HLW.out cj rfl rfl
          have l2 : decide (e1 ≥ lo) = true := by simpa using l1
          have l2' : decide (lo ≤ e1) = true := by simpa using l1
          subst cj
          clear l1
          go_wp2_with fail
          refine (HAL.out _).mono ?_
          rintro e w9 ⟨rfl, hb9⟩
          have B9 := hidE (BB9.out.trans (hb9.mono BB9.out.size))
          clear hb9
          go_wp2_with fail
          go_ret
          exact ⟨by simp, B9.out⟩
        · have l2 : (lj != 0) = true := by simpa using cj
          clear cj
          go_wp2_with fail
          refine (HAL.out _).mono ?_
          rintro e w9 ⟨rfl, hb9⟩
          have B9 := hidE (BB9.out.trans (hb9.mono BB9.out.size))
          clear hb9
          go_wp2_with fail
          go_ret
          exact ⟨by simp, B9.out⟩
end Go.Proofs.YthjmkmjojlfejaaGreat
