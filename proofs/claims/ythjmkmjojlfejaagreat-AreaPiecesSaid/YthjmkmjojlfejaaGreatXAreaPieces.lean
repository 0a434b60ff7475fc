/- What the law AreaPieces needs beyond the base: Pure, PureB, PlB, Sm, Mf2, Mf4, Mf5, Mf6, Mf7, Nh0, Du0, Base, Wu, Wv, PlQ, Y2, Du1, Bd1, Bd2, Tk, Me1, Ef1, Ef4, Me2, Me3, Mo1, Cg4, Cg5, Gp3, Pi1, Al1, Al3, Mo2, Lp, Pi2, Fr. No conditions beyond those stated. -/
import Derived.Test.YthjmkmjojlfejaaGreatB01
import Derived.Test.YthjmkmjojlfejaaGreatB02
import Derived.Test.YthjmkmjojlfejaaGreatB03
import Derived.Test.YthjmkmjojlfejaaGreatB11
import Derived.Test.YthjmkmjojlfejaaGreatB10
import Derived.Test.YthjmkmjojlfejaaGreatB12
import Derived.WalkKit
import Derived.Handy
import Derived.RangeFuncRecord
import Derived.Test.YthjmkmjojlfejaaGreatProg
import Derived.Shelf.Abstract
import Derived.Deep.QuietTactic
import Derived.BigQuiet
import Derived.Laws.CopyOwn
import Derived.WalkSmall
import Derived.RangeFuncNested
import Derived.RangeFuncBound
import Derived.RangeFuncCalls
import Derived.RangeFuncLeaves
import Derived.Shelf.RegionOpen
import Derived.OwnWalkIn
import Derived.TacticsInMore
import Derived.LoopNIn
import Derived.LoopIn
import Derived.Maps.AppendAt
import Derived.Deep.Onto
import Derived.OrdersHeld
import Derived.Deep.LoopGhost
import Derived.Deep.WholeRow
import Derived.Deep.OwnRows
import Derived.StillTailTactics
import Derived.Great.Walk
import Derived.Great.BuildSlice
import Derived.WalkMore
import Derived.Deep.MidRow
import Derived.Deep.RegionHeld3
import Derived.Deep.DeepCutAuto
import Derived.Shelf.Small.Bits
import Derived.Shelf.Small.Wraps
import Derived.Shelf.Strconv.Itoa0
import Derived.Shelf.Sort.Plain
import Derived.Shelf.Slices.Turned
import Derived.Ground.Names2Prog
import Derived.Shelf.Slices.CompactI
import Derived.Shelf.Slices.SearchI
import Derived.Shelf.Slices.Cells
import Derived.Shelf.Slices.In.SortNone
import Derived.Lib.OwnBridge
import Derived.Lib.SliceRun
import Derived.WalkSpells
import Derived.Deep.RegionWith
import Derived.Lib.AppendZerosOnto
import Derived.Deep.CutBlock
import Derived.Test.YthjmkmjojlfejaaGreatB13
import Derived.Test.YthjmkmjojlfejaaGreatB09
import Derived.Test.YthjmkmjojlfejaaGreatB08
import Derived.Test.YthjmkmjojlfejaaGreatB05
import Derived.Test.YthjmkmjojlfejaaGreatB04
import Derived.IntWalk
import Derived.Scope
import Derived.Test.YthjmkmjojlfejaaGreatB07
import Derived.Test.YthjmkmjojlfejaaGreatB06
import Derived.Test.YthjmkmjojlfejaaGreatB15
import Derived.Test.YthjmkmjojlfejaaGreatB16
import Derived.Test.YthjmkmjojlfejaaGreatB14
import Derived.Test.YthjmkmjojlfejaaGreatRows
import Derived.ProofKit
import Derived.OpenShut
import Derived.Carry
import Derived.Lib.SmallJoins
import Derived.Deep.Slices
namespace Go.Proofs.YthjmkmjojlfejaaGreat
def Bd.ok (b : Bd) : Prop := i64ok b.src ∧ i64ok b.dst ∧ i64ok b.most ∧ i64ok b.rcd
theorem foldl_relaxC_low {N : Int} (bs : List Bd) : ∀ (c : Nat) (s : List Int × Bool), (∀ b ∈ bs, b.valid N) → LowBy c s.1 → LowBy (c + bs.length) (bs.foldl relaxC s).1 := by
 induction bs with
 | nil => intro c s _ H; exact H
 | cons b bs ih =>
   intro c s hv H
   have := ih (c + 1) (relaxC s b) (fun x hx => hv x (List.mem_cons_of_mem _ hx)) (relaxC_low (hv b (List.mem_cons_self ..)) H)
   rw [show c + 1 + bs.length = c + (b :: bs).length by simp only [List.length_cons]; omega] at this
   exact this
theorem openedGo_low {N : Int} {bs : List Bd} (hv : ∀ b ∈ bs, b.valid N) (r : Nat) : ∀ (c : Nat) (h h' : List Int), LowBy c h → openedGo bs r h = some h' → LowBy (c + r * bs.length) h' := by
 induction r with
 | zero => intro c h h' _ e; simp [openedGo] at e
 | succ r ih =>
   intro c h h' H e
   have H1 : LowBy (c + bs.length) (roundP bs h).1 := foldl_relaxC_low bs c (h, false) hv H
   have hm : (r + 1) * bs.length = r * bs.length + bs.length := Nat.succ_mul _ _
   simp only [openedGo] at e
   split at e
   ·have := ih (c + bs.length) _ h' H1 e
    exact this.mono (by omega)
   ·simp only [Option.some.injEq] at e
    rw [← e]
    exact H1.mono (by omega)
theorem openedP_low {N : Int} {bs : List Bd} {h : List Int} (hv : AllValid N bs) (e : openedP N bs = some h) : LowBy ((N + 1).toNat * bs.length) h := by
 have := openedGo_low hv _ 0 _ _ (lowBy_start 128) e
 simpa using this
theorem sumN_add (f g : Nat → Int) : ∀ n, sumN (fun i => f i + g i) n = sumN f n + sumN g n
 | 0 => rfl
 | n + 1 => by simp only [sumN, sumN_add f g n]; omega
theorem sumN_mul (c : Int) (f : Nat → Int) : ∀ n, sumN (fun i => c * f i) n = c * sumN f n
 | 0 => by simp [sumN]
 | n + 1 => by simp only [sumN, sumN_mul c f n, Int.mul_add]
theorem sumN_zero {f : Nat → Int} : ∀ {n : Nat}, (∀ i, i < n → f i = 0) → sumN f n = 0
 | 0, _ => rfl
 | n + 1, h => by simp only [sumN]; rw [sumN_zero fun i hi => h i (by omega), h n (by omega)]; rfl
theorem sumN_le {f g : Nat → Int} : ∀ {n : Nat}, (∀ i, i < n → f i ≤ g i) → sumN f n ≤ sumN g n
 | 0, _ => Int.le_refl _
 | n + 1, h => by have := sumN_le (n := n) fun i hi => h i (by omega); have := h n (by omega); simp only [sumN]; omega
theorem sumN_nonneg {f : Nat → Int} {n : Nat} (h : ∀ i, i < n → 0 ≤ f i) : 0 ≤ sumN f n := by
 have := sumN_le (f := fun _ => 0) h
 rw [sumN_zero (fun _ _ => rfl)] at this
 exact this
theorem sumN_single {g : Int → Int} {d : Int} : ∀ {n : Nat}, 0 ≤ d → d < n → sumN (fun i => if d = (i : Int) then g i else 0) n = g d
 | 0, h0, h1 => by omega
 | n + 1, h0, h1 => by
   simp only [sumN]
   by_cases e : d = n
   ·rw [if_pos e, sumN_zero (fun i hi => if_neg (by omega)), e]; omega
   ·rw [if_neg e, sumN_single h0 (by omega)]; omega
theorem sumN_one {f : Nat → Int} {n k : Nat} (hk : k < n) (h : ∀ i, i < n → 0 ≤ f i) : f k ≤ sumN f n := by
 induction n with
 | zero => omega
 | succ n ih =>
   simp only [sumN]
   by_cases e : k = n
   ·subst e
    have := sumN_nonneg (f := f) (n := k) fun i hi => h i (by omega)
    omega
   ·have := ih (by omega) fun i hi => h i (by omega)
    have := h n (by omega)
    omega
theorem foldA_quiet : ∀ (l : List Arc) (s : Sh × Bool), (∀ a ∈ l, shorter s.1 a = false) → l.foldl relaxA s = s
 | [], _, _ => rfl
 | a :: l, s, h => by
   have e : relaxA s a = s := by unfold relaxA; rw [h a (List.mem_cons_self ..)]; rfl
   rw [List.foldl_cons, e]
   exact foldA_quiet l s fun x hx => h x (List.mem_cons_of_mem _ hx)
def Below1 (N : Nat) (s s' : Sh) : Prop := ∀ v, 0 ≤ v → v < (N : Int) → getK s.k v = true → getK s'.k v = true ∧ getI s'.c v ≤ getI s.c v
theorem Below1.refl (N : Nat) (s : Sh) : Below1 N s s := fun _ _ _ h => ⟨h, Int.le_refl _⟩
theorem Below1.trans {N : Nat} {s t u : Sh} (h1 : Below1 N s t) (h2 : Below1 N t u) : Below1 N s u := fun v a b c => by
 obtain ⟨d, e⟩ := h1 v a b c
 obtain ⟨f, g⟩ := h2 v a b d
 exact ⟨f, Int.le_trans g e⟩
theorem relaxA_below {N : Nat} {A : List Arc} {s : Sh × Bool} (hN : N ≤ 128) (hv : AllValid N (resid A)) (hw : s.1.whole) {a : Arc} (ha : a ∈ A) : Below1 N s.1 (relaxA s a).1 ∧ (relaxA s a).1.whole := by
 unfold relaxA
 cases hs : shorter s.1 a with
 | false => exact ⟨Below1.refl _ _, hw⟩
 | true =>
   simp only [if_true]
   refine ⟨fun v h0 h1 hk => ?_, Sh.upd_whole hw a⟩
   rw [upd_k hw hN (hv _ (mem_resid ha)) h0, upd_c hw hN (hv _ (mem_resid ha)) h0]
   by_cases e : v = a.dst
   ·subst e
    rw [if_pos rfl, if_pos rfl]
    have := shorter_lt hs hk
    exact ⟨rfl, by omega⟩
   ·rw [if_neg e, if_neg e]; exact ⟨hk, Int.le_refl _⟩
theorem relaxA_step {N : Nat} {A : List Arc} {s : Sh × Bool} (hN : N ≤ 128) (hv : AllValid N (resid A)) (hw : s.1.whole) {a : Arc} (ha : a ∈ A) (hk : getK s.1.k a.src = true) :
 getK (relaxA s a).1.k a.dst = true ∧ getI (relaxA s a).1.c a.dst ≤ getI s.1.c a.src + a.cost := by
 have h3 : (0 : Int) ≤ a.dst := (hv _ (mem_resid ha)).2.2.1
 unfold relaxA
 cases hs : shorter s.1 a with
 | false => simpa using not_shorter hs hk
 | true =>
   simp only [if_true]
   rw [upd_k hw hN (hv _ (mem_resid ha)) h3, upd_c hw hN (hv _ (mem_resid ha)) h3]
   simp
theorem foldA_below {N : Nat} {A : List Arc} (hN : N ≤ 128) (hv : AllValid N (resid A)) : ∀ (l : List Arc) (s : Sh × Bool), (∀ a ∈ l, a ∈ A) → s.1.whole → Below1 N s.1 (l.foldl relaxA s).1 ∧ (l.foldl relaxA s).1.whole
 | [], s, _, hw => ⟨Below1.refl _ _, hw⟩
 | a :: l, s, hl, hw => by
   obtain ⟨h1, h2⟩ := relaxA_below hN hv hw (hl a (List.mem_cons_self ..))
   obtain ⟨h3, h4⟩ := foldA_below hN hv l (relaxA s a) (fun x hx => hl x (List.mem_cons_of_mem _ hx)) h2
   exact ⟨h1.trans h3, h4⟩
theorem foldA_step {N : Nat} {A : List Arc} (hN : N ≤ 128) (hv : AllValid N (resid A)) : ∀ (l : List Arc) (s : Sh × Bool), (∀ a ∈ l, a ∈ A) → s.1.whole → ∀ a ∈ l, getK s.1.k a.src = true →
 getK (l.foldl relaxA s).1.k a.dst = true ∧ getI (l.foldl relaxA s).1.c a.dst ≤ getI s.1.c a.src + a.cost
 | [], _, _, _, a, ha, _ => by cases ha
 | x :: l, s, hl, hw, a, ha, hk => by
   rw [List.foldl_cons]
   obtain ⟨h1, h2⟩ := relaxA_below hN hv hw (hl x (List.mem_cons_self ..))
   have hl' : ∀ a ∈ l, a ∈ A := fun y hy => hl y (List.mem_cons_of_mem _ hy)
   rcases List.mem_cons.1 ha with rfl | ha
   ·obtain ⟨g1, g2⟩ := relaxA_step hN hv hw (hl a (List.mem_cons_self ..)) hk
    have hva := hv _ (mem_resid (hl a (List.mem_cons_self ..)))
    obtain ⟨f1, f2⟩ := (foldA_below hN hv l (relaxA s a) hl' h2).1 a.dst hva.2.2.1 hva.2.2.2.1 g1
    exact ⟨f1, by omega⟩
   ·have hva := hv _ (mem_resid (hl' a ha))
    obtain ⟨f1, f2⟩ := h1 a.src hva.1 hva.2.1 hk
    obtain ⟨g1, g2⟩ := foldA_step hN hv l (relaxA s x) hl' h2 a ha f1
    exact ⟨g1, by omega⟩
theorem valid_end {N : Nat} {bs : List Bd} (hv : AllValid N bs) {a b : Int} (h0 : 0 ≤ a) (h1 : a < N) : ∀ {l : List Bd}, Walk a b l → Over bs l → 0 ≤ b ∧ b < N := by
 intro l hw ho
 rcases List.eq_nil_or_concat l with rfl | ⟨p, x, rfl⟩
 ·simp only [Walk] at hw; subst hw; exact ⟨h0, h1⟩
 ·rw [List.concat_eq_append] at hw ho
  obtain ⟨_, rfl⟩ := walk_last hw
  have := hv x (ho x (by simp))
  exact ⟨this.2.2.1, this.2.2.2.1⟩
theorem lowK_round {N : Nat} {A : List Arc} {Sr : Int → Prop} {k : Nat} {s : Sh} (hN : N ≤ 128) (hv : AllValid N (resid A)) (hw : s.whole) (H : LowK N A Sr k s) : LowK N A Sr (k + 1) (passA A s).1 := by
 intro a v l hsr h0 h1 hwk ho hlen
 rcases List.eq_nil_or_concat l with rfl | ⟨p, x, rfl⟩
 ·obtain ⟨g1, g2⟩ := H a v [] hsr h0 h1 hwk ho (by simp)
  obtain ⟨e0, e1⟩ := valid_end hv h0 h1 hwk ho
  obtain ⟨f1, f2⟩ := (foldA_below hN hv A (s, false) (fun _ h => h) hw).1 v e0 e1 g1
  exact ⟨f1, Int.le_trans f2 g2⟩
 ·rw [List.concat_eq_append] at hwk ho hlen ⊢
  obtain ⟨w1, rfl⟩ := walk_last hwk
  obtain ⟨y, hy, hyx⟩ := List.mem_map.1 (ho x (by simp))
  obtain ⟨g1, g2⟩ := H a x.src p hsr h0 h1 w1 ho.left (by simp at hlen; omega)
  subst hyx
  obtain ⟨f1, f2⟩ := foldA_step hN hv A (s, false) (fun _ h => h) hw y hy g1
  refine ⟨f1, ?_⟩
  rw [wsum_append]
  simp only [wsum, Arc.bnd] at *
  show getI (A.foldl relaxA (s, false)).1.c y.dst ≤ _
  omega
theorem lowK_quiet {N : Nat} {A : List Arc} {Sr : Int → Prop} {k : Nat} {s : Sh} (hv : AllValid N (resid A)) (hn : NoNeg (resid A)) (hk : N ≤ k + 1) (HR : ShInv N A Sr s) (HL : LowK N A Sr k s) : ∀ a ∈ A, shorter s a = false := by
 intro b hb
 cases hs : shorter s b with
 | false => rfl
 | true =>
   exfalso
   have hva := hv _ (mem_resid hb)
   obtain ⟨a, l, sx, a0, a1, hw, ho, hsum⟩ := HR.reach b.src hva.1 hva.2.1 (shorter_src hs)
   obtain ⟨l', g1, g2, g3, g4⟩ := walk_short hv hn (l ++ [b.bnd]).length (l := l ++ [b.bnd]) (Nat.le_refl _) a0 a1 (hw.trans ⟨rfl, rfl⟩) (ho.append (Over.one (mem_resid hb)))
   obtain ⟨f1, f2⟩ := HL a b.dst l' sx a0 a1 g1 g2 (by omega)
   have := shorter_lt hs f1
   rw [wsum_append, hsum] at g4
   simp only [wsum, Arc.bnd] at g4
   omega
theorem shortGo_some {N : Nat} {A : List Arc} {Sr : Int → Prop} (hN : N ≤ 128) (hv : AllValid N (resid A)) (hn : NoNeg (resid A)) : ∀ (r k : Nat) (s : Sh), 1 ≤ r → N ≤ k + r → ShInv N A Sr s → LowK N A Sr k s → ∃ s', shortGo A r s = some s'
 | 0, _, _, h1, _, _, _ => by omega
 | r + 1, k, s, _, hk, HR, HL => by
   simp only [shortGo]
   split
   ·rename_i hf
    by_cases hr : r = 0
    ·have := foldA_quiet A (s, false) (lowK_quiet hv hn (by omega) HR HL)
     rw [passA, this] at hf; cases hf
    ·exact shortGo_some hN hv hn r (k + 1) _ (by omega) (by omega) (HR.mid hN hv (pass_mid MidA.start)) (lowK_round hN hv HR.whole HL)
   ·exact ⟨_, rfl⟩
def netFrom (flow : List Int) (v : Int) : Nat → List Bd → Int
 | _, [] => 0
 | i, b :: bs => ((if b.dst = v then flow.getD i 0 else 0) - (if b.src = v then flow.getD i 0 else 0)) + netFrom flow v (i + 1) bs
def netOf (bs : List Bd) (flow : List Int) (v : Int) : Int := netFrom flow v 0 bs
def costFrom (flow : List Int) : Nat → List Bd → Int
 | _, [] => 0
 | i, b :: bs => flow.getD i 0 * b.most + costFrom flow (i + 1) bs
def costOf (bs : List Bd) (flow : List Int) : Int := costFrom flow 0 bs
theorem netFrom_out (flow : List Int) (v : Int) (j : Nat) (x : Int) : ∀ (i : Nat) (bs : List Bd), j < i → netFrom (flow.set j x) v i bs = netFrom flow v i bs
 | _, [], _ => rfl
 | i, b :: bs, h => by
   have e : (flow.set j x).getD i 0 = flow.getD i 0 := by rw [getD_set_at]; exact if_neg (by omega)
   simp only [netFrom]
   rw [netFrom_out flow v j x (i + 1) bs (by omega), e]
theorem netFrom_set (flow : List Int) (v : Int) (j : Nat) (x : Int) (hj : j < flow.length) : ∀ (i : Nat) (bs : List Bd) (h : j - i < bs.length), i ≤ j →
 netFrom (flow.set j x) v i bs = netFrom flow v i bs + ((if bs[j - i].dst = v then x - flow.getD j 0 else 0) - (if bs[j - i].src = v then x - flow.getD j 0 else 0))
 | _, [], h, _ => by simp at h
 | i, b :: bs, h, hij => by
   simp only [netFrom]
   by_cases e : i = j
   ·subst e
    have e2 : (flow.set i x).getD i 0 = x := by rw [getD_set_at]; exact if_pos ⟨rfl, hj⟩
    rw [netFrom_out _ _ _ _ _ _ (by omega), e2]
    simp only [Nat.sub_self, List.getElem_cons_zero]
    repeat' split
    all_goals omega
   ·have h2 : j - i = (j - (i + 1)) + 1 := by omega
    have e2 : (flow.set j x).getD i 0 = flow.getD i 0 := by rw [getD_set_at]; exact if_neg (by omega)
    rw [netFrom_set flow v j x hj (i + 1) bs (by simp at h; omega) (by omega), e2]
    simp only [h2, List.getElem_cons_succ]
    omega
def diffFrom (flow : List Int) (y : Int → Int) : Nat → List Bd → Int
 | _, [] => 0
 | i, b :: bs => flow.getD i 0 * (y b.dst - y b.src) + diffFrom flow y (i + 1) bs
theorem dot_net {N : Nat} (flow : List Int) (y : Int → Int) : ∀ (i : Nat) (bs : List Bd), AllValid N bs → sumN (fun v => y v * netFrom flow v i bs) N = diffFrom flow y i bs
 | _, [], _ => by simp [netFrom, diffFrom, sumN_zero]
 | i, b :: bs, hv => by
   obtain ⟨v1, v2, v3, v4, _⟩ := hv b (List.mem_cons_self ..)
   have ih := dot_net flow y (i + 1) bs fun x hx => hv x (List.mem_cons_of_mem _ hx)
   simp only [diffFrom]
   rw [← ih]
   have e : sumN (fun v => y v * netFrom flow v i (b :: bs)) N = sumN (fun v => ((if b.dst = (v : Int) then y v * flow.getD i 0 else 0) + (if b.src = (v : Int) then y v * -flow.getD i 0 else 0)) + y v * netFrom flow v (i + 1) bs) N := by
    refine sumN_congr fun v _ => ?_
    simp only [netFrom, Int.mul_add]
    congr 1
    repeat' split
    ·rw [Int.sub_self, Int.mul_neg, Int.add_right_neg, Int.mul_zero]
    all_goals simp
   rw [e, sumN_add, sumN_add, sumN_single (g := fun v => y v * flow.getD i 0) v3 v4, sumN_single (g := fun v => y v * -flow.getD i 0) v1 v2]
   rw [Int.mul_sub, Int.mul_neg, Int.mul_comm (y b.dst), Int.mul_comm (y b.src)]
   omega
theorem diff_le {flow : List Int} {y : Int → Int} (hf : ∀ i, 0 ≤ flow.getD i 0) : ∀ (i : Nat) (bs : List Bd), (∀ b ∈ bs, y b.dst - y b.src ≤ b.most) → diffFrom flow y i bs ≤ costFrom flow i bs
 | _, [], _ => Int.le_refl _
 | i, b :: bs, h => by
   have := diff_le hf (i + 1) bs fun x hx => h x (List.mem_cons_of_mem _ hx)
   have := Int.mul_le_mul_of_nonneg_left (h b (List.mem_cons_self ..)) (hf i)
   simp only [diffFrom, costFrom]
   omega
theorem diff_eq {flow : List Int} {y : Int → Int} : ∀ (i : Nat) (bs : List Bd), (∀ j (h : j < bs.length), flow.getD (i + j) 0 ≠ 0 → y bs[j].dst - y bs[j].src = bs[j].most) → diffFrom flow y i bs = costFrom flow i bs
 | _, [], _ => rfl
 | i, b :: bs, h => by
   have h1 := diff_eq (flow := flow) (y := y) (i + 1) bs fun j hj hne => by
    have := h (j + 1) (by simpa using hj) (by rw [show i + (j + 1) = i + 1 + j from by omega]; exact hne)
    simpa using this
   simp only [diffFrom, costFrom, h1]
   by_cases e : flow.getD i 0 = 0
   ·rw [e]; simp
   ·have := h 0 (by simp) (by simpa using e)
    simp only [List.getElem_cons_zero] at this
    rw [this]
theorem walk_fun {g : Int → Int} {bs : List Bd} (hp : ∀ b ∈ bs, g b.dst ≤ g b.src + b.most) : ∀ {a b : Int} {l : List Bd}, Walk a b l → Over bs l → g b - g a ≤ wsum l
 | a, b, [], hw, _ => by simp only [Walk] at hw; subst hw; simp [wsum]
 | a, b, x :: l, hw, ho => by
   have h1 := walk_fun hp hw.2 ho.tail
   have h2 := hp x (ho x (List.mem_cons_self ..))
   have h3 := hw.1
   subst h3
   simp only [wsum]
   omega
theorem noNeg_of_fun {g : Int → Int} {bs : List Bd} (hp : ∀ b ∈ bs, g b.dst ≤ g b.src + b.most) : NoNeg bs := fun a l hw ho => by have := walk_fun hp hw ho; omega
theorem moveP_at {m : Int} : ∀ (l : List Arc) (flow : List Int), (l.map Arc.bd).Nodup → ∀ a ∈ l, a.bd < flow.length → (moveP m l flow).getD a.bd 0 = flow.getD a.bd 0 + sgn m a
 | [], _, _, a, ha, _ => by cases ha
 | x :: l, flow, hn, a, ha, hl => by
   rw [List.map_cons, List.nodup_cons] at hn
   show (moveP m l (move1 m flow x)).getD a.bd 0 = _
   rcases List.mem_cons.1 ha with rfl | ha
   ·rw [moveP_other l _ (fun y hy e => hn.1 (List.mem_map.2 ⟨y, hy, e⟩)), move1_get, if_pos ⟨rfl, hl⟩]
   ·rw [moveP_at l _ hn.2 a ha (by rw [move1_len]; exact hl), move1_get, if_neg (fun q => hn.1 (List.mem_map.2 ⟨a, ha, q.1.symm⟩))]
    omega
theorem push_noNeg {N : Nat} {bs : List Bd} {flow : List Int} {p : Nat} {s : Sh} {n : Nat} {v : Int} {l : List Arc} {m : Int} (hN : N ≤ 128) (_hp : p < N) (hv : AllValid N bs) (hn : NoNeg (resid (arcsP bs flow)))
 (HR : ShInv N (arcsP bs flow) (fun v => v = (p : Int)) s) (HB : ByInv N (arcsP bs flow) p s) (hfix : ∀ a ∈ arcsP bs flow, shorter s a = false) (hw : Way N (arcsP bs flow) p s n v l) (_h0 : ∀ j, 0 ≤ flow.getD j 0) :
 NoNeg (resid (arcsP bs (moveP m l flow))) := by
 have hva := arcs_valid flow hv
 obtain ⟨h, hh⟩ := openedP_some hN hva hn
 have hpot := openedP_pot hh
 have hlow := openedP_low hva hh
 obtain ⟨c, hc⟩ : ∃ c : Nat, c = ((N : Int) + 1).toNat * (resid (arcsP bs flow)).length := ⟨_, rfl⟩
 rw [← hc] at hlow
 refine noNeg_of_fun (g := fun v => if getK s.k v = true then getI s.c v else getI h v + (129000000 + (c : Int) * 1000000)) ?_
 have key : ∀ a ∈ arcsP bs flow, (if getK s.k a.dst = true then getI s.c a.dst else getI h a.dst + (129000000 + (c : Int) * 1000000)) ≤ (if getK s.k a.src = true then getI s.c a.src else getI h a.src + (129000000 + (c : Int) * 1000000)) + a.cost := by
  intro a ha
  obtain ⟨v1, v2, v3, v4, v5, v6⟩ := hva _ (mem_resid ha)
  simp only [Arc.bnd] at v1 v2 v3 v4 v5 v6
  have hp2 := hpot _ (mem_resid ha)
  simp only [Arc.bnd] at hp2
  by_cases hs : getK s.k a.src = true
  ·obtain ⟨k1, k2⟩ := not_shorter (hfix a ha) hs
   rw [if_pos k1, if_pos hs]; exact k2
  ·rw [if_neg hs]
   by_cases hd : getK s.k a.dst = true
   ·rw [if_pos hd]
    have b1 := HR.bounds hN hva hn v3 v4 hd
    have b2 := hlow a.src.toNat
    have b3 : getI h a.src = h.getD a.src.toNat 0 := rfl
    omega
   ·rw [if_neg hd]; omega
 intro b hb
 obtain ⟨a, ha, rfl⟩ := List.mem_map.1 hb
 by_cases hold : a ∈ arcsP bs flow
 ·exact key a hold
 ·-- a new way back
  obtain ⟨j, hj, q | ⟨q, hpos⟩⟩ := mem_arcsP.1 ha
  ·exact absurd (mem_arcsP.2 ⟨j, hj, .inl q⟩) hold
  ·have hz : ¬ 0 < flow.getD j 0 := fun q2 => hold (mem_arcsP.2 ⟨j, hj, .inr ⟨q, q2⟩⟩)
   have hx : ∃ x ∈ l, x.bd = j := by
    apply Classical.byContradiction
    intro hno
    rw [moveP_other l flow fun x hx e => hno ⟨x, hx, e⟩] at hpos
    exact hz hpos
   obtain ⟨x, hxl, rfl⟩ := hx
   obtain ⟨t1, t2, t3, t4⟩ := way_tight HB hw x hxl
   obtain ⟨_, e | ⟨_, e2⟩⟩ := arcs_at t1
   ·rw [q]
    rw [e] at t2 t3 t4
    simp only [fwdArc] at t2 t3 t4
    show (if getK s.k bs[x.bd].src = true then getI s.c bs[x.bd].src else getI h bs[x.bd].src + (129000000 + (c : Int) * 1000000)) ≤ (if getK s.k bs[x.bd].dst = true then getI s.c bs[x.bd].dst else getI h bs[x.bd].dst + (129000000 + (c : Int) * 1000000)) + -bs[x.bd].most
    rw [if_pos t2, if_pos t3]
    omega
   ·exact absurd e2 hz
theorem net_move1 {bs : List Bd} {flow : List Int} {a : Arc} {m : Int} (ha : ∃ hj : a.bd < bs.length, a = fwdArc a.bd bs[a.bd] ∨ a = bwdArc a.bd bs[a.bd]) (hl : flow.length = bs.length) (v : Int) :
 netOf bs (move1 m flow a) v = netOf bs flow v + ((if a.dst = v then m else 0) - (if a.src = v then m else 0)) := by
 obtain ⟨hj, h⟩ := ha
 obtain ⟨x, hx⟩ : ∃ x, x = (if a.back then flow.getD a.bd 0 - m else flow.getD a.bd 0 + m) := ⟨_, rfl⟩
 have e := netFrom_set flow v a.bd x (by omega) 0 bs (by omega) (Nat.zero_le _)
 simp only [Nat.sub_zero] at e
 unfold netOf move1
 rw [← hx, e]
 clear e
 generalize bs[a.bd] = b at h ⊢
 rcases h with h | h
 ·have e1 : a.back = false := by rw [h]; rfl
  have e2 : a.dst = b.dst := by rw [h]; rfl
  have e3 : a.src = b.src := by rw [h]; rfl
  rw [e1] at hx
  simp only [Bool.false_eq_true, if_false] at hx
  rw [e2, e3, show x - flow.getD a.bd 0 = m by omega]
 ·have e1 : a.back = true := by rw [h]; rfl
  have e2 : a.dst = b.src := by rw [h]; rfl
  have e3 : a.src = b.dst := by rw [h]; rfl
  rw [e1] at hx
  simp only [if_true] at hx
  rw [e2, e3, show x - flow.getD a.bd 0 = -m by omega]
  split <;> split <;> omega
theorem net_way {N : Nat} {bs : List Bd} {flow0 : List Int} {p : Int} {s : Sh} {m : Int} {n : Nat} {x : Int} {l : List Arc} (h : Way N (arcsP bs flow0) p s n x l) (v : Int) :
 ∀ flow : List Int, flow.length = bs.length → netOf bs (moveP m l flow) v = netOf bs flow v + ((if x = v then m else 0) - (if p = v then m else 0)) := by
 induction h with
 | nil => intro flow _; show netOf bs flow v = _; omega
 | @cons n x l hvp h0 h1 hk hA hd ht hup hw ih =>
   intro flow hl
   show netOf bs (moveP m l (move1 m flow (getA s.by_ x))) v = _
   rw [ih _ (by rw [move1_len]; exact hl), net_move1 (by obtain ⟨hj, q | ⟨q, _⟩⟩ := arcs_at hA; exact ⟨hj, .inl q⟩; exact ⟨hj, .inr q⟩) hl, hd]
   omega
theorem find_range {N : Nat} {P : Nat → Bool} {q : Nat} (h : (List.range N).find? P = some q) : q < N ∧ P q = true := ⟨List.mem_range.1 (List.mem_of_find?_eq_some h), List.find?_some h⟩
theorem find_none {N : Nat} {P : Nat → Bool} (h : (List.range N).find? P = none) : ∀ q, q < N → P q = false := fun q hq => by
 have := List.find?_eq_none.1 h q (List.mem_range.2 hq)
 simpa using this
theorem getI_nat (l : List Int) (n : Nat) : getI l (n : Int) = l.getD n 0 := rfl
structure Pushed (N : Nat) (bs : List Bd) (F : Fl) (p : Nat) (F' : Fl) (q : Nat) (m : Int) : Prop where
 hq : q < N
 ne : q ≠ p
 qpos : 0 < F.need.getD q 0
 m1 : 1 ≤ m
 mp : m ≤ -F.need.getD p 0
 mq : m ≤ F.need.getD q 0
 need : F'.need = addAt (addAt F.need p m) q (-m)
 len : F'.flow.length = bs.length
 fl0 : ∀ j, 0 ≤ F'.flow.getD j 0
 fl1 : ∀ j, F'.flow.getD j 0 ≤ F.flow.getD j 0 + m
 neg : NoNeg (resid (arcsP bs F'.flow))
 net : ∀ v : Int, netOf bs F'.flow v = netOf bs F.flow v + ((if (q : Int) = v then m else 0) - (if (p : Int) = v then m else 0))
theorem push_total {N : Nat} {bs : List Bd} {F : Fl} {p : Nat} (hN : N ≤ 128) (hv : AllValid N bs) (hF : FlOk N bs F) (h0 : ∀ j, 0 ≤ F.flow.getD j 0) (hp : p < N) (hneed : F.need.getD p 0 < 0) :
 pushP N bs F p = some none ∨ ∃ F' q m, pushP N bs F p = some (some F') ∧ Pushed N bs F p F' q m := by
 have hva := arcs_valid F.flow hv
 obtain ⟨HR0, HL0⟩ := shOne_inv (A := arcsP bs F.flow) hN hp
 obtain ⟨s, hs⟩ := shortGo_some hN hva hF.neg 1000 0 (shOne p) (by omega) (by omega) HR0 HL0
 have hfix := short_fix 1000 _ _ hs
 have hmid := short_mid (s0 := shOne p) 1000 _ _ MidA.start hs
 have HR := HR0.mid hN hva hmid
 have HB := (ByInv.start (A := arcsP bs F.flow) hp hN).mid hN hva hF.neg (by omega) HR0 hmid
 unfold pushP
 rw [hs]
 simp only
 cases hq : firstQ N s F.need with
 | none => exact .inl rfl
 | some q =>
   right
   obtain ⟨q1, q2⟩ := find_range hq
   unfold wants at q2
   simp only [Bool.and_eq_true, decide_eq_true_eq] at q2
   obtain ⟨q2, q3⟩ := q2
   rw [getI_nat] at q3
   obtain ⟨n, hup⟩ := HB.up q (by omega) (by omega) q2
   have hdep := HB.depth hva (by omega) (by omega) q2 hup
   obtain ⟨l, hl, hw⟩ := way_of hva HB hfix n q hup (by omega) (by omega) q2 1000 (by omega)
   simp only [hl]
   obtain ⟨m, hm⟩ : ∃ m, m = muchP F.flow l (min (-getI F.need p) (getI F.need q)) := ⟨_, rfl⟩
   rw [← hm]
   have hle := much_le F.flow l (min (-getI F.need p) (getI F.need q))
   have hti := way_tight HB hw
   have hpos := much_pos F.flow l (min (-getI F.need p) (getI F.need q)) (by rw [getI_nat, getI_nat]; omega) (fun a ha hb => arcs_back (hti a ha).1 hb)
   rw [← hm] at hle hpos
   rw [getI_nat, getI_nat] at hle
   have hnd := way_bds hw
   refine ⟨_, q, m, rfl, ?_⟩
   refine { hq := q1, ne := ?_, qpos := q3, m1 := by omega, mp := by omega, mq := by omega, need := rfl, len := by rw [moveP_len]; exact hF.fl, fl0 := ?_, fl1 := ?_, neg := push_noNeg hN hp hv hF.neg HR HB hfix hw h0, net := fun v => net_way hw v F.flow hF.fl }
   ·intro e; subst e; omega
   ·intro j
    by_cases hj : ∃ a ∈ l, a.bd = j
    ·obtain ⟨a, ha, rfl⟩ := hj
     obtain ⟨hb, _⟩ := arcs_at (hti a ha).1
     simp only
     rw [moveP_at l F.flow hnd a ha (by rw [hF.fl]; exact hb)]
     unfold sgn
     split
     ·rename_i hbk; have := hle.2 a ha hbk; omega
     ·have := h0 a.bd; omega
    ·simp only
     rw [moveP_other l F.flow fun a ha e => hj ⟨a, ha, e⟩]; exact h0 j
   ·intro j
    by_cases hj : ∃ a ∈ l, a.bd = j
    ·obtain ⟨a, ha, rfl⟩ := hj
     obtain ⟨hb, _⟩ := arcs_at (hti a ha).1
     simp only
     rw [moveP_at l F.flow hnd a ha (by rw [hF.fl]; exact hb)]
     unfold sgn
     split <;> omega
    ·simp only
     rw [moveP_other l F.flow fun a ha e => hj ⟨a, ha, e⟩]; omega
def lack (N : Nat) (need : List Int) : Int := sumN (fun v => max 0 (-need.getD v 0)) N
theorem sumN_at {f g : Nat → Int} {p : Nat} {d : Int} : ∀ {n : Nat}, p < n → (∀ i, i < n → g i = f i + if i = p then d else 0) → sumN g n = sumN f n + d
 | 0, h, _ => by omega
 | n + 1, h, hg => by
   simp only [sumN]
   by_cases e : p = n
   ·subst e
    rw [sumN_congr (g := f) fun i hi => by rw [hg i (by omega), if_neg (by omega)]; omega, hg p (by omega), if_pos rfl]
    omega
   ·rw [sumN_at (n := n) (f := f) (g := g) (p := p) (d := d) (by omega) fun i hi => hg i (by omega), hg n (by omega), if_neg (by omega)]
    omega
structure BInv (N : Nat) (bs : List Bd) (w : List Int) (C : Int) (F : Fl) : Prop where
 neg : NoNeg (resid (arcsP bs F.flow))
 fl : F.flow.length = bs.length
 fl0 : ∀ j, 0 ≤ F.flow.getD j 0
 tot : ∀ j, F.flow.getD j 0 + lack N F.need ≤ C
 nl : F.need.length = 128
 nb : ∀ v, -C ≤ F.need.getD v 0 ∧ F.need.getD v 0 ≤ C
 net : ∀ v : Nat, 1 ≤ v → v < N → netOf bs F.flow v + F.need.getD v 0 = w.getD v 0
 zero : sumN (fun v => F.need.getD v 0) N = 0
theorem lack_nonneg (N : Nat) (need : List Int) : 0 ≤ lack N need := sumN_nonneg fun i _ => by omega
theorem mem_getD {l : List Int} {x : Int} (h : x ∈ l) : ∃ j : Nat, l.getD j 0 = x := by
 obtain ⟨j, hj, rfl⟩ := List.getElem_of_mem h
 exact ⟨j, by rw [List.getD_eq_getElem?_getD, List.getElem?_eq_getElem hj]; rfl⟩
theorem BInv.ok {N : Nat} {bs : List Bd} {w : List Int} {C : Int} {F : Fl} (h : BInv N bs w C F) (hC : C ≤ 1000000000) : FlOk N bs F := by
 have hz := lack_nonneg N F.need
 refine ⟨h.neg, h.fl, fun x hx => ?_, h.nl, fun x hx => ?_⟩
 ·obtain ⟨j, rfl⟩ := mem_getD hx
  have := h.fl0 j
  have := h.tot j
  omega
 ·obtain ⟨j, rfl⟩ := mem_getD hx
  have := h.nb j
  omega
theorem BInv.push {N : Nat} {bs : List Bd} {w : List Int} {C : Int} {F F' : Fl} {p q : Nat} {m : Int} (hN : N ≤ 128) (hp : p < N) (h : BInv N bs w C F) (P : Pushed N bs F p F' q m) : BInv N bs w C F' ∧ lack N F'.need + m = lack N F.need := by
 have hq := P.hq
 have hne := P.ne
 have hnl := h.nl
 have m1 := P.m1
 have mp := P.mp
 have mq := P.mq
 have hget : ∀ v, F'.need.getD v 0 = F.need.getD v 0 + (if v = p then m else 0) + (if v = q then -m else 0) := by
  intro v
  rw [P.need, addAt_get0, addAt_get0, addAt_len0]
  by_cases e1 : v = p
  ·subst e1
   rw [if_pos ⟨rfl, by omega⟩, if_neg (fun e => hne e.1), if_pos rfl, if_neg (fun e => hne e.symm)]
  ·rw [if_neg (fun e => e1 e.1.symm), if_neg e1]
   by_cases e2 : v = q
   ·subst e2; rw [if_pos ⟨rfl, by omega⟩, if_pos rfl]
   ·rw [if_neg (fun e => e2 e.1.symm), if_neg e2]
 have hlack : lack N F'.need + m = lack N F.need := by
  have : lack N F'.need = lack N F.need + -m := by
   unfold lack
   refine sumN_at hp fun i _ => ?_
   rw [hget i]
   by_cases e1 : i = p
   ·subst e1; rw [if_pos rfl, if_neg (fun e => hne e.symm), if_pos rfl]; omega
   ·rw [if_neg e1, if_neg e1]
    by_cases e2 : i = q
    ·subst e2; rw [if_pos rfl]; omega
    ·rw [if_neg e2]; omega
  omega
 refine ⟨{ neg := P.neg, fl := P.len, fl0 := P.fl0, tot := fun j => ?_, nl := by rw [P.need, addAt_len0, addAt_len0]; exact hnl, nb := fun v => ?_, net := fun v hv hvN => ?_, zero := ?_ }, hlack⟩
 ·have := P.fl1 j; have := h.tot j; omega
 ·have := h.nb v
  rw [hget v]
  by_cases e1 : v = p
  ·subst e1; rw [if_pos rfl, if_neg (fun e => hne e.symm)]; omega
  ·rw [if_neg e1]
   by_cases e2 : v = q
   ·subst e2; rw [if_pos rfl]; omega
   ·rw [if_neg e2]; omega
 ·have := h.net v hv hvN
  rw [P.net, hget v]
  by_cases e1 : v = p
  ·subst e1; rw [if_neg (by omega), if_pos rfl, if_pos rfl, if_neg (fun e => hne e.symm)]; omega
  ·rw [if_neg (show ¬ (p : Int) = v by omega), if_neg e1]
   by_cases e2 : v = q
   ·subst e2; rw [if_pos rfl, if_pos rfl]; omega
   ·rw [if_neg (by omega), if_neg e2]; omega
 ·have a1 : sumN (fun v => F.need.getD v 0 + if v = p then m else 0) N = sumN (fun v => F.need.getD v 0) N + m := sumN_at hp fun i _ => rfl
  have a2 : sumN (fun v => F'.need.getD v 0) N = sumN (fun v => F.need.getD v 0 + if v = p then m else 0) N + -m := sumN_at hq fun i _ => hget i
  have := h.zero
  omega
theorem best_runs {N : Nat} {bs : List Bd} {w : List Int} {C : Int} (hN : N ≤ 128) (hC : C ≤ 1000000000) (hv : AllValid N bs) : ∀ (k : Nat) (F : Fl), BInv N bs w C F → lack N F.need ≤ k →
 ∃ R, Runs N bs F R ∧ ∀ F', R = some F' → BInv N bs w C F' ∧ firstP N F'.need = none := by
 intro k
 induction k with
 | zero =>
   intro F h hk
   have hz := lack_nonneg N F.need
   have hf : firstP N F.need = none := by
    refine List.find?_eq_none.2 fun p hp => ?_
    have hp' := List.mem_range.1 hp
    have := sumN_one (f := fun v => max 0 (-F.need.getD v 0)) hp' (fun i _ => by omega)
    unfold lack at hk
    have hg := getI_nat F.need p
    simp only [decide_eq_true_eq]
    rw [hg]
    omega
   exact ⟨some F, .done (h.ok hC) hf, fun F' e => by cases e; exact ⟨h, hf⟩⟩
 | succ k ih =>
   intro F h hk
   cases hf : firstP N F.need with
   | none => exact ⟨some F, .done (h.ok hC) hf, fun F' e => by cases e; exact ⟨h, hf⟩⟩
   | some p =>
     obtain ⟨p1, p2⟩ := find_range hf
     simp only [decide_eq_true_eq] at p2
     rw [getI_nat] at p2
     rcases push_total hN hv (h.ok hC) h.fl0 p1 p2 with e | ⟨F', q, m, e, P⟩
     ·exact ⟨none, .stuck (h.ok hC) hf e, fun F' e => by cases e⟩
     ·obtain ⟨h', hl⟩ := h.push hN p1 P
      have m1 := P.m1
      obtain ⟨R, hR, hL⟩ := ih F' h' (by omega)
      exact ⟨R, .step (h.ok hC) hf e hR, hL⟩
theorem sum_shift (g : Nat → Int) : ∀ n, sumN g (n + 1) = g 0 + sumN (fun i => g (i + 1)) n
 | 0 => by simp [sumN]
 | n + 1 => by
   have := sum_shift g n
   simp only [sumN] at this ⊢
   omega
theorem rep_getD (n j : Nat) : (List.replicate n (0 : Int)).getD j 0 = 0 := by
 simp only [List.getD_eq_getElem?_getD, List.getElem?_replicate]; split <;> rfl
theorem resid_zero (n : Nat) : ∀ (i : Nat) (bs : List Bd), ∀ a ∈ arcsFrom (List.replicate n 0) i bs, ∃ b ∈ bs, a.src = b.src ∧ a.dst = b.dst ∧ a.cost = b.most
 | _, [], a, h => by cases h
 | i, b :: bs, a, h => by
   simp only [arcsFrom, arcsAt, rep_getD, Int.lt_irrefl, if_false, List.cons_append, List.nil_append, List.mem_cons] at h
   rcases h with rfl | h
   ·exact ⟨b, List.mem_cons_self .., rfl, rfl, rfl⟩
   ·obtain ⟨c, hc, e⟩ := resid_zero n (i + 1) bs a h
    exact ⟨c, List.mem_cons_of_mem _ hc, e⟩
theorem noNeg_start {N : Nat} {bs : List Bd} (hN : N ≤ 128) (hv : AllValid N bs) (h : NoNeg bs) (n : Nat) : NoNeg (resid (arcsP bs (List.replicate n 0))) := by
 obtain ⟨t, ht⟩ := openedP_some hN hv h
 have hp := openedP_pot ht
 refine noNeg_of_fun (g := getI t) fun b hb => ?_
 obtain ⟨a, ha, rfl⟩ := List.mem_map.1 hb
 obtain ⟨c, hc, e1, e2, e3⟩ := resid_zero n 0 bs a ha
 have := hp c hc
 simp only [Arc.bnd]
 rw [e1, e2, e3]
 omega
theorem netFrom_zero (n : Nat) (v : Int) : ∀ (i : Nat) (bs : List Bd), netFrom (List.replicate n 0) v i bs = 0
 | _, [] => rfl
 | i, b :: bs => by simp only [netFrom, rep_getD, netFrom_zero n v (i + 1) bs, ite_self]; rfl
theorem start_inv {N : Nat} {bs : List Bd} {w : List Int} (h1 : 1 ≤ N) (hN : N ≤ 128) (hv : AllValid N bs) (h : NoNeg bs) (hw : ∀ v, -1000000 ≤ w.getD v 0 ∧ w.getD v 0 ≤ 1000000) : BInv N bs w 256000000 (start N bs w) := by
 have hg := needTo_get w (N - 1) (by omega)
 have hs := sumN_bd (f := fun i => w.getD (i + 1) 0) (c := 1000000) (n := N - 1) fun i _ => hw (i + 1)
 have hnb : ∀ v, -127000000 ≤ (needTo w (N - 1)).getD v 0 ∧ (needTo w (N - 1)).getD v 0 ≤ 127000000 := by
  intro v
  rw [hg v]
  have := hw v
  split
  ·omega
  ·split <;> omega
 have hlack : lack N (needTo w (N - 1)) ≤ 254000000 := by
  unfold lack
  obtain ⟨M, rfl⟩ : ∃ M, N = M + 1 := ⟨N - 1, by omega⟩
  rw [sum_shift]
  have a := hnb 0
  have b := sumN_bd (f := fun i => max 0 (-(needTo w (M + 1 - 1)).getD (i + 1) 0)) (c := 1000000) (n := M) fun i hi => by
   rw [hg (i + 1), if_neg (by omega), if_pos (by omega)]
   have := hw (i + 1)
   omega
  omega
 refine { neg := noNeg_start hN hv h _, fl := by simp [start], fl0 := fun j => ?_, tot := fun j => ?_, nl := needTo_len w _, nb := fun v => ?_, net := fun v hv1 hvN => ?_, zero := ?_ }
 ·show 0 ≤ (List.replicate _ (0 : Int)).getD j 0; rw [rep_getD]; omega
 ·show (List.replicate _ (0 : Int)).getD j 0 + lack N (needTo w (N - 1)) ≤ _; rw [rep_getD]; omega
 ·have := hnb v; show _ ≤ (needTo w (N - 1)).getD v 0 ∧ (needTo w (N - 1)).getD v 0 ≤ _; omega
 ·show netOf bs (List.replicate _ 0) v + (needTo w (N - 1)).getD v 0 = _
  unfold netOf
  rw [netFrom_zero, hg v, if_neg (by omega), if_pos (by omega)]; omega
 ·show sumN (fun v => (needTo w (N - 1)).getD v 0) N = 0
  obtain ⟨M, rfl⟩ : ∃ M, N = M + 1 := ⟨N - 1, by omega⟩
  have e2 : sumN (fun i => (needTo w (M + 1 - 1)).getD (i + 1) 0) M = sumN (fun i => w.getD (i + 1) 0) M := sumN_congr fun i hi => by rw [hg (i + 1), if_neg (by omega), if_pos (by omega)]
  rw [sum_shift, hg 0, if_pos rfl, e2]
  simp only [Nat.add_sub_cancel]
  omega
structure BestOk (N : Nat) (bs : List Bd) (w y flow : List Int) : Prop where
 yl : y.length = N
 y0 : y.getD 0 0 = 0
 yb : ∀ v, -256000000 ≤ y.getD v 0 ∧ y.getD v 0 ≤ 256000000
 kept : ∀ b ∈ bs, getI y b.dst - getI y b.src ≤ b.most
 fl : flow.length = bs.length
 fb : ∀ j, 0 ≤ flow.getD j 0 ∧ flow.getD j 0 ≤ 256000000
 net : ∀ v : Nat, 1 ≤ v → v < N → netOf bs flow v = w.getD v 0
 cost : costOf bs flow = sumN (fun v => w.getD v 0 * y.getD v 0) N
theorem best_end {N : Nat} {bs : List Bd} {w : List Int} {F : Fl} (h1 : 1 ≤ N) (hN : N ≤ 128) (hv : AllValid N bs) (h : BInv N bs w 256000000 F) (hf : firstP N F.need = none) :
 ∃ s, shortGo (arcsP bs F.flow) 1000 (shAll N) = some s ∧ BestOk N bs w (valsOf N s) F.flow := by
 have hva := arcs_valid F.flow hv
 obtain ⟨HR0, HL0⟩ := shAll_inv (A := arcsP bs F.flow) hN
 obtain ⟨s, hs⟩ := shortGo_some hN hva h.neg 1000 0 (shAll N) (by omega) (by omega) HR0 HL0
 have hfix := short_fix 1000 _ _ hs
 have hmid := short_mid (s0 := shAll N) 1000 _ _ MidA.start hs
 have HR := HR0.mid hN hva hmid
 have hkn : ∀ v : Int, 0 ≤ v → v < N → getK s.k v = true := by
  have h0 : ∀ v : Int, 0 ≤ v → v < N → getK (shAll N).k v = true := by
   intro v a b
   exact (HL0 v v [] ⟨a, b⟩ a b rfl Over.nil (Nat.le_refl _)).1
  have : ∀ t, MidA (arcsP bs F.flow) (shAll N) t → (∀ v : Int, 0 ≤ v → v < N → getK t.k v = true) ∧ t.whole := by
   intro t ht
   induction ht with
   | start => exact ⟨h0, HR0.whole⟩
   | @step t a ht ha hsh ih =>
     refine ⟨fun v a1 a2 => ?_, Sh.upd_whole ih.2 a⟩
     rw [upd_k ih.2 hN (hva _ (mem_resid ha)) a1]
     split
     ·rfl
     ·exact ih.1 v a1 a2
  exact (this s hmid).1
 have hb := fun (v : Int) a b => HR.bounds hN hva h.neg (v := v) a b (hkn v a b)
 have hneed : ∀ v, v < N → F.need.getD v 0 = 0 := by
  have hnn : ∀ v, v < N → 0 ≤ F.need.getD v 0 := by
   intro v hvN
   have := find_none hf v hvN
   simp only [decide_eq_false_iff_not] at this
   rw [getI_nat] at this
   omega
  intro v hvN
  have := sumN_one (f := fun v => F.need.getD v 0) hvN hnn
  have := h.zero
  have := hnn v hvN
  omega
 have hy : ∀ v : Int, 0 ≤ v → v < N → getI (valsOf N s) v = getI s.c v - getI s.c 0 := by
  intro v a b
  obtain ⟨n, rfl⟩ := Int.eq_ofNat_of_zero_le a
  rw [getI_nat, vals_get N s n (by omega)]
 have harc : ∀ a ∈ arcsP bs F.flow, getI s.c a.dst ≤ getI s.c a.src + a.cost := by
  intro a ha
  obtain ⟨v1, v2, _⟩ := hva _ (mem_resid ha)
  exact (not_shorter (hfix a ha) (hkn _ v1 v2)).2
 refine ⟨s, hs, { yl := by simp [valsOf], y0 := ?_, yb := fun v => ?_, kept := fun b hbm => ?_, fl := h.fl, fb := fun j => ?_, net := fun v a b => ?_, cost := ?_ }⟩
 ·rw [vals_get N s 0 (by omega)]; simp
 ·by_cases hvN : v < N
  ·rw [vals_get N s v hvN]
   have a := hb v (by omega) (by omega)
   have b := hb 0 (by omega) (by omega)
   omega
  ·rw [List.getD_eq_getElem?_getD, List.getElem?_eq_none (by simp [valsOf]; omega)]; simp
 ·obtain ⟨v1, v2, v3, v4, _⟩ := hv b hbm
  obtain ⟨j, hj, rfl⟩ := List.getElem_of_mem hbm
  have := harc _ (mem_arcsP.2 ⟨j, hj, .inl rfl⟩)
  simp only [fwdArc] at this
  rw [hy _ v1 v2, hy _ v3 v4]
  omega
 ·have a := h.tot j
  have b := lack_nonneg N F.need
  exact ⟨h.fl0 j, by omega⟩
 ·have := h.net v a b
  rw [hneed v b] at this
  omega
 ·have e1 := dot_net (N := N) F.flow (getI (valsOf N s)) 0 bs hv
  have e2 := diff_eq (flow := F.flow) (y := getI (valsOf N s)) 0 bs fun j hj hne => by
   rw [Nat.zero_add] at hne
   have hpos : 0 < F.flow.getD j 0 := by have := h.fl0 j; omega
   obtain ⟨v1, v2, v3, v4, _⟩ := hv _ (List.getElem_mem hj)
   have a := harc _ (mem_arcsP.2 ⟨j, hj, .inl rfl⟩)
   have b := harc _ (mem_arcsP.2 ⟨j, hj, .inr ⟨rfl, hpos⟩⟩)
   simp only [fwdArc, bwdArc] at a b
   rw [hy _ v1 v2, hy _ v3 v4]
   omega
  unfold costOf
  rw [← e2, ← e1]
  obtain ⟨M, rfl⟩ : ∃ M, N = M + 1 := ⟨N - 1, by omega⟩
  rw [sum_shift, sum_shift]
  have z : getI (valsOf (M + 1) s) ((0 : Nat) : Int) = 0 := by rw [hy _ (by omega) (by omega)]; simp
  have z2 : (valsOf (M + 1) s).getD 0 0 = 0 := by rw [vals_get _ _ _ (by omega)]; simp
  rw [z, z2, Int.zero_mul, Int.mul_zero]
  congr 1
  refine sumN_congr fun i hi => ?_
  have := h.net (i + 1) (by omega) (by omega)
  rw [hneed (i + 1) (by omega), Int.add_zero] at this
  show getI (valsOf (M + 1) s) ((i + 1 : Nat) : Int) * netOf bs F.flow ((i + 1 : Nat) : Int) = _
  rw [this, getI_nat, Int.mul_comm]
theorem flB_of {N : Nat} {bs : List Bd} {F : Fl} (hN : N ≤ 128) (hv : AllValid N bs) (h : FlOk N bs F) : flB N bs F = true := by
 unfold flB
 simp only [Bool.and_eq_true, beq_iff_eq, List.all_eq_true, decide_eq_true_eq]
 exact ⟨⟨⟨⟨(openedP_iff hN (arcs_valid F.flow hv)).2 h.neg, h.fl⟩, h.fb⟩, h.nl⟩, h.nb⟩
theorem runsB_of {N : Nat} {bs : List Bd} (hN : N ≤ 128) (hv : AllValid N bs) {F : Fl} {R : Option Fl} (h : Runs N bs F R) : ∃ f, runsB N bs f F = some R := by
 induction h with
 | done ok e => exact ⟨1, by unfold runsB; rw [if_neg (by rw [flB_of hN hv ok]; simp), e]⟩
 | stuck ok e e2 => exact ⟨1, by unfold runsB; rw [if_neg (by rw [flB_of hN hv ok]; simp), e]; simp only [e2]⟩
 | step ok e e2 _ ih =>
   obtain ⟨f, hf⟩ := ih
   exact ⟨f + 1, by unfold runsB; rw [if_neg (by rw [flB_of hN hv ok]; simp), e]; simp only [e2]; exact hf⟩
theorem best_total {N : Nat} {bs : List Bd} {w : List Int} (h1 : 1 ≤ N) (hN : N ≤ 128) (hv : AllValid N bs) (h : NoNeg bs) (hw : ∀ v, -1000000 ≤ w.getD v 0 ∧ w.getD v 0 ≤ 1000000) (_hl : w.length = N) :
 ∃ f R, BestRun N bs w f R ∧ ∀ r, R = some r → BestOk N bs w r.y r.flow ∧ r.n = formP w r.y := by
 have hi := start_inv h1 hN hv h hw
 obtain ⟨R0, hR, hL⟩ := best_runs hN (by omega) hv (lack N (start N bs w).need).toNat (start N bs w) hi (by omega)
 obtain ⟨f, hf⟩ := runsB_of hN hv hR
 cases R0 with
 | none => exact ⟨f, none, ⟨none, hf, .inl ⟨rfl, rfl⟩⟩, fun r e => by cases e⟩
 | some F =>
   obtain ⟨hF, hfp⟩ := hL F rfl
   obtain ⟨s, hs, hb⟩ := best_end h1 hN hv hF hfp
   exact ⟨f, some ⟨formP w (valsOf N s), valsOf N s, F.flow⟩, ⟨some F, hf, .inr ⟨F, s, rfl, hs, rfl⟩⟩, fun r e => by cases e; exact ⟨hb, rfl⟩⟩
structure Carry (N : Nat) (bs : List Bd) (w fl : List Int) : Prop where
 pos : ∀ j, 0 ≤ fl.getD j 0
 net : ∀ v : Nat, 1 ≤ v → v < N → netOf bs fl v = w.getD v 0
theorem dual {N : Nat} {bs : List Bd} {w y fl : List Int} (_h1 : 1 ≤ N) (hv : AllValid N bs) (hl : w.length = N) (y0 : y.getD 0 0 = 0) (hy : ∀ b ∈ bs, getI y b.dst - getI y b.src ≤ b.most) (hc : Carry N bs w fl) : formP w y ≤ costOf bs fl := by
 have d1 := dot_net (N := N) fl (getI y) 0 bs hv
 have d2 := diff_le (flow := fl) (y := getI y) hc.pos 0 bs hy
 unfold costOf
 rw [← d1] at d2
 refine Int.le_trans (Int.le_of_eq ?_) d2
 unfold formP
 rw [hl]
 refine sumN_congr fun v hvN => ?_
 show w.getD v 0 * y.getD v 0 = getI y (v : Nat) * netFrom fl (v : Nat) 0 bs
 rw [getI_nat]
 by_cases e : v = 0
 ·subst e; rw [y0]; simp
 ·have := hc.net v (by omega) hvN
  unfold netOf at this
  rw [this, Int.mul_comm]
end Go.Proofs.YthjmkmjojlfejaaGreat
namespace Go.Proofs.YthjmkmjojlfejaaGreat
open Go Go.RowKit
def Bd.val (x : Bd) : Value := .agg #[.int .i64 x.src, .int .i64 x.dst, .int .i64 x.most, .int .i64 x.rcd]
end Go.Proofs.YthjmkmjojlfejaaGreat
namespace Go.Proofs.YthjmkmjojlfejaaGreat
open Go Go.RowKit Go.Shelf
def TestsBoundsK (P : Program) (f : FuncId) (caps : Array Value) (Fix : Nat → Prop) (w : World) (bs : List Bd) (p : Bd → Bool) : Prop :=
 ∀ k (_ : k < bs.length) (W : World), KeepsB Fix w W → Calls P f (#[bs[k].val] ++ caps) W fun e W' => e = .returned (.bool (p bs[k])) ∧ Below W.heap.size W W'
set_option maxHeartbeats 400000 in
theorem indexFuncBounds_any (w : World) (a : Option Addr) (cap : Nat) (bs : List Bd) (f : FuncId) (caps : Array Value) (Fix : Nat → Prop) (p : Bd → Bool) (hl : bs.length ≤ 9223372036854775807) (h : BoundsAt w a bs)
 (hF : ∀ b, Fix b → b < w.heap.size) (hf : TestsBoundsK Tryz.prog f caps Fix w bs p) (eg : Enters Tryz.prog f) :
 Calls Tryz.prog 138 #[.slice a bs.length cap, .func (.func f) #[] caps] w fun e w' => e = .returned (.int .i64 (idxOf p bs)) ∧ Below w.heap.size w w' := by
 have H := hidE h
 have HF := hidE hf
 have HFx := hidE hF
 unfold Enters at eg
 clear h hf hF
 go_enter Tryz.func138, Tryz.ntmps138
 go_wp2
 go_loopw [8] (fun i wr => ∃ k : Nat, k ≤ bs.length ∧ i = .int .i64 k ∧ Hid ((bs.take k).any p = false) ∧ Below w.heap.size w wr)
  (fun i _ => bs.length - (intOf i).toNat)
 case atStart => exact ⟨0, by omega, rfl, hidE rfl, by go_grown⟩
 case round =>
  obtain ⟨k, hk, rfl, HA, hb⟩ := hrel
  by_cases hlt : k < bs.length
  ·obtain ⟨b, off, rfl, hbl, hcs⟩ := H.out.at hlt
   obtain ⟨c0, c1, c2, c3⟩ := hcs.below hb hbl
   have hcall := HF.out k hlt wr (KeepsB.below hb HFx.out)
   unfold Bd.val at hcall
   obtain ⟨x, hx⟩ : ∃ x, bs[k] = x := ⟨_, rfl⟩
   rw [hx] at c0 c1 c2 c3 hcall
   have HX := hidE hx
   clear hx hcs
   obtain ⟨q, hq⟩ : ∃ q, p x = q := ⟨_, rfl⟩
   rw [hq] at hcall
   have HC := hidE hcall
   have HQ := hidE hq
   clear hcall hq
   cases q with
   | true =>
     go_wp2_with (go_at_fn f; refine HC.out.mono ?_; rintro e w' ⟨rfl, hb'⟩)
     go_ret
     exact ⟨by rw [idxOf_found hlt HA.out (by rw [HX.out]; exact HQ.out)]; rfl, hb.trans (hb'.mono hb.size)⟩
   | false =>
     go_wp2_with (go_at_fn f; refine HC.out.mono ?_; rintro e w' ⟨rfl, hb'⟩)
     go_roundw
     case rel => exact ⟨k + 1, by omega, by go_num, hidE (take_any_succ hlt HA.out (by rw [HX.out]; exact HQ.out)), hb.trans (hb'.mono hb.size)⟩
     case measure => simp [intOf]; omega
  ·go_wp2_with fail
   go_ret
   exact ⟨by rw [idxOf_none (any_of_take (by omega) HA.out)]; rfl, hb⟩
theorem IntsAt.kept {w0 W : World} {a : Option Addr} {l : List Int} (h : IntsAt w0 a l) (hk : ∀ b, b < w0.heap.size → W.heap[b]? = w0.heap[b]?) (hs : w0.heap.size ≤ W.heap.size) : IntsAt W a l := by
 rcases h with e | ⟨b, off, e, hb, hc⟩
 ·exact .inl e
 ·exact .inr ⟨b, off, e, Nat.lt_of_lt_of_le hb hs, fun i hi => (World.cell?_of_block (w := w0) (hk b hb)).trans (hc i hi)⟩
end Go.Proofs.YthjmkmjojlfejaaGreat
namespace Go.Proofs.YthjmkmjojlfejaaGreat
def keptB (y : List Int) (b : Bd) : Bool := decide (b.most < getI y b.dst - getI y b.src)
def keptE (N : Int) (bs : List Bd) (y : List Int) : Int × Bool × Int :=
 if checkP N bs ≠ 0 then (0, false, checkP N bs) else if valuesB N y = false then (0, false, 1) else (max (idxOf (keptB y) bs) 0, decide (idxOf (keptB y) bs < 0), 0)
structure Keeps (N : Nat) (bs : List Bd) (y : List Int) : Prop where
 len : y.length = N
 zero : y.getD 0 0 = 0
 bd : ∀ v ∈ y, -400000000 ≤ v ∧ v ≤ 400000000
 pot : Pot y bs
theorem kept_pot {bs : List Bd} {y : List Int} : idxOf (keptB y) bs < 0 ↔ Pot y bs := by
 rw [idxOf_neg]
 unfold Pot keptB
 simp only [List.any_eq_false, decide_eq_true_eq]
 constructor
 ·intro h b hb; have := h b hb; omega
 ·intro h b hb; have := h b hb; omega
theorem keptE_iff {N : Nat} {bs : List Bd} {y : List Int} (hc : checkP N bs = 0) : (keptE N bs y).2.1 = true ↔ Keeps N bs y := by
 unfold keptE
 rw [if_neg (by simp [hc])]
 split
 ·rename_i h
  constructor
  ·intro e; simp at e
  ·intro k; rw [valuesB_iff.2 ⟨k.len, k.zero, k.bd⟩] at h; simp at h
 ·rename_i h
  have h2 := valuesB_iff.1 (by simpa using h)
  simp only [decide_eq_true_eq]
  rw [kept_pot]
  exact ⟨fun p => ⟨h2.1, h2.2.1, h2.2.2, p⟩, fun k => k.pot⟩
end Go.Proofs.YthjmkmjojlfejaaGreat
namespace Go.Proofs.YthjmkmjojlfejaaGreat
open Go Go.RowKit Go.Shelf
theorem within_at {n a b : Int} {r : Bool} (h : inR n a b = r) (w : World) : Calls Tryz.prog 185 #[.int .i64 n, .int .i64 a, .int .i64 b] w fun e w' => e = .returned (.bool r) ∧ w = w' := by
 rw [← h]; exact within_any n a b w
theorem values1_any (w : World) (v : Int) : Calls Tryz.prog 184 #[.int .i64 v] w fun e w' => e = .returned (.bool (!inR v (-400000000) 400000000)) ∧ w = w' := by
 obtain ⟨r, hr⟩ : ∃ r, inR v (-400000000) 400000000 = r := ⟨_, rfl⟩
 rw [hr]
 have HR := hidE hr
 clear hr
 go_enter Tryz.func184, Tryz.ntmps184
 go_wp2_with (go_at_call 185; refine (within_at HR.out _).mono ?_; rintro e w' ⟨rfl, rfl⟩)
 go_ret
 exact ⟨rfl, rfl⟩
set_option maxHeartbeats 400000 in
theorem values_any (w : World) (N : Int) (sv : Value) (a : Option Addr) (cap : Nat) (y : List Int) (hN0 : 1 ≤ N) (hN1 : N ≤ 128) (hl : y.length ≤ 9223372036854775807) (h : IntsAt w a y) :
 Calls Tryz.prog 137 #[.agg #[.int .i64 N, sv], .slice a y.length cap] w fun e w' => e = .returned (.bool (valuesB N y)) ∧ Below w.heap.size w w' := by
 by_cases h1 : (y.length : Int) = N
 ·have h1b : ((y.length : Int) == N) = true := by simpa using h1
  have hlt : 0 < y.length := by omega
  obtain ⟨b, off, rfl, hbl, hc⟩ := h.at hlt
  have hg : y.getD 0 0 = y[0] := getD_get y 0 hlt
  obtain ⟨v, hv⟩ : ∃ v, y[0] = v := ⟨_, rfl⟩
  rw [hv] at hc hg
  rw [Nat.add_zero] at hc
  by_cases h2 : v = 0
  ·have h2b : (v == 0) = true := by simpa using h2
   have hq := containsFuncInts_any (w.alloc (.cells #[.int .i64 N, sv] 24)) (some ⟨b, off, none⟩) cap y 184 #[] (fun v => !inR v (-400000000) 400000000) hl (h.alloc _) (fun k hk W hb => (values1_any W y[k]).mono fun _ _ ⟨he, hw⟩ => ⟨he, hw ▸ Below.refl _ _⟩) (enters_of Tryz.func184 (by kernel_rfl) rfl)
   have hval : valuesB N y = !(y.any fun v => !inR v (-400000000) 400000000) := by unfold valuesB; rw [hg, h1]; simp [h2]
   obtain ⟨r, hr⟩ : ∃ r, (y.any fun v => !inR v (-400000000) 400000000) = r := ⟨_, rfl⟩
   rw [hr] at hq hval
   have HQ := hidE hq
   have HV := hidE hval
   clear hq hval hr hg hv h1 h2 h
   go_enter Tryz.func137, Tryz.ntmps137
   go_wp2_with fail
   refine HQ.out.mono ?_
   rintro e w1 ⟨rfl, hb1⟩
   go_wp2_with fail
   go_ret
   exact ⟨by rw [HV.out]; rfl, ((Below.refl _ _).alloc (Nat.le_refl _) _).trans (hb1.mono (by simp))⟩
  ·have h2b : (v == 0) = false := by simpa using h2
   have hval : valuesB N y = false := by unfold valuesB; rw [hg]; simp [h2]
   have HV := hidE hval
   clear hval hg hv h1 h2 h
   go_enter Tryz.func137, Tryz.ntmps137
   go_wp2_with fail
   go_ret
   exact ⟨by rw [HV.out]; rfl, by go_grown⟩
 ·have h1b : ((y.length : Int) == N) = false := by simpa using h1
  have hval : valuesB N y = false := by unfold valuesB; simp [h1]
  have HV := hidE hval
  clear hval h1 h
  go_enter Tryz.func137, Tryz.ntmps137
  go_wp2_with fail
  go_ret
  exact ⟨by rw [HV.out]; rfl, by go_grown⟩
set_option maxHeartbeats 400000 in
theorem kept1_any (w : World) (b : Bd) (N bl : Nat) (a : Option Addr) (cap : Nat) (y : List Int) (hb : b.valid N) (hN : y.length = N) (_hN1 : N ≤ 128) (hv : ∀ v ∈ y, -400000000 ≤ v ∧ v ≤ 400000000) (h : IntsAt w a y) (hc : w.cell? ⟨bl, 0, none⟩ = some (.slice a y.length cap)) (hbl : bl < w.heap.size) :
 Calls Tryz.prog 139 #[b.val, .pointer (some ⟨bl, 0, none⟩)] w fun e w' => e = .returned (.bool (keptB y b)) ∧ Below w.heap.size w w' := by
 obtain ⟨v1, v2, v3, v4, v5, v6⟩ := hb
 obtain ⟨ys, yd, ym, yr⟩ := b
 simp only at v1 v2 v3 v4 v5 v6
 obtain ⟨si, rfl⟩ := Int.eq_ofNat_of_zero_le v1
 obtain ⟨di, rfl⟩ := Int.eq_ofNat_of_zero_le v3
 have hs : si < y.length := by omega
 have hd : di < y.length := by omega
 obtain ⟨b, off, rfl, hbw, hcs⟩ := h.at hs
 obtain ⟨b', off', e', _, hcd⟩ := h.at hd
 cases e'
 have q1 := hv y[si] (List.getElem_mem _)
 have q2 := hv y[di] (List.getElem_mem _)
 have hkb : keptB y ⟨si, di, ym, yr⟩ = decide (ym < y[di] - y[si]) := by
  unfold keptB getI
  rw [decide_eq_decide]
  simp only [Int.toNat_natCast]
  rw [getD_get y 0 hs, getD_get y 0 hd]
 obtain ⟨x, hx⟩ : ∃ x, y[si] = x := ⟨_, rfl⟩
 obtain ⟨z, hz⟩ : ∃ z, y[di] = z := ⟨_, rfl⟩
 rw [hx, hz] at hkb
 rw [hx] at hcs q1
 rw [hz] at hcd q2
 have s0 : (si : Int) < y.length := by omega
 have d0 : (di : Int) < y.length := by omega
 have hw1 : IntKind.i64.wrap (z - x) = z - x := IntWalk.i64_in _ (by omega)
 have HK := hidE hkb
 have hbl1 : bl < w.heap.size + 1 := by omega
 clear hkb hx hz hN h hv hbw
 unfold Bd.val
 go_enter Tryz.func139, Tryz.ntmps139
 go_wp2_with fail
 go_quiet (fail)
 go_wp2_with fail
 go_ret
 exact ⟨by rw [HK.out]; rfl, ((Below.refl _ _).alloc (Nat.le_refl _) _).trans (below_drewN' _ _)⟩
set_option maxHeartbeats 1000000 in
theorem kept_any (w : World) (N : Int) (a : Option Addr) (cap : Nat) (bs : List Bd) (a2 : Option Addr) (cap2 : Nat) (y : List Int) (hN : i64ok N) (hl : bs.length ≤ 9223372036854775807) (hl2 : y.length ≤ 9223372036854775807) (h : BoundsAt w a bs) (h2 : IntsAt w a2 y) :
 Calls Tryz.prog 67 #[.agg #[.int .i64 N, .slice a bs.length cap], .slice a2 y.length cap2] w fun e w' => e = .returned (.tuple #[.int .i64 (keptE N bs y).1, .bool (keptE N bs y).2.1, .int .i64 (keptE N bs y).2.2]) ∧ Below w.heap.size w w' := by
 obtain ⟨W0, hW0⟩ : ∃ W0, W0 = (w.alloc (.cells #[.int .i64 N, .slice a bs.length cap] 24)).alloc (.cells #[.slice a2 y.length cap2] 25) := ⟨_, rfl⟩
 have b0 : Below w.heap.size w W0 := by rw [hW0]; exact ((Below.refl _ _).alloc (Nat.le_refl _) _).alloc (by simp) _
 have x0 : W0.heap[w.heap.size]? = some (.cells #[.int .i64 N, .slice a bs.length cap] 24 (0,0)) := by rw [hW0, Below.heap_alloc _ _ _ (by simp), heap_alloc_new]
 have x1 : W0.heap[w.heap.size + 1]? = some (.cells #[.slice a2 y.length cap2] 25 (0,0)) := by rw [hW0, heap_alloc_at _ _ _ (by simp)]
 have hck := check_any W0 N a cap bs hN hl (h.below b0 (Nat.le_refl _))
 by_cases hc : checkP N bs = 0
 ·obtain ⟨n0, n1, n2, nv⟩ := checkP_zero hc
  rw [hc] at hck
  have HCK := hidE hck
  have H := hidE h
  have H2 := hidE h2
  have X0 := hidE x0
  have X1 := hidE x1
  have B0 := hidE b0
  have HW := hidE hW0
  have HC := hidE hc
  have NV := hidE nv
  clear hck h h2 x0 x1 b0 hW0 hc nv hN
  go_enter Tryz.func67, Tryz.ntmps67
  go_upto_region 1 with fail
  rw [← HW.out]
  have e0 : W0.cell? ⟨w.heap.size, 0, none⟩ = some (.int .i64 N) := c_e X0.out rfl
  have e1 : W0.cell? ⟨w.heap.size, 1, none⟩ = some (.slice a bs.length cap) := c_e X0.out rfl
  go_wp2_with fail
  refine HCK.out.mono ?_
  rintro e w1 ⟨rfl, hb1⟩
  have y0 := blk_below hb1 (lt_of_block X0.out) X0.out
  have y1 := blk_below hb1 (lt_of_block X1.out) X1.out
  have B1 := B0.out.trans (hb1.mono B0.out.size)
  have hva := values_any w1 N (.slice a bs.length cap) a2 cap2 y n0 n1 hl2 (H2.out.below B1 (Nat.le_refl _))
  have Y0 := hidE y0
  have Y1 := hidE y1
  have HB1 := hidE B1
  have HVA := hidE hva
  have f0 : w1.cell? ⟨w.heap.size, 0, none⟩ = some (.int .i64 N) := c_e Y0.out rfl
  have f1 : w1.cell? ⟨w.heap.size, 1, none⟩ = some (.slice a bs.length cap) := c_e Y0.out rfl
  have f2 : w1.cell? ⟨w.heap.size + 1, 0, none⟩ = some (.slice a2 y.length cap2) := cell_of_one Y1.out
  clear y0 y1 B1 hb1 hva e0 e1
  go_wp2_with fail
  refine HVA.out.mono ?_
  rintro e w2 ⟨rfl, hb2⟩
  have z0 := blk_below hb2 (lt_of_block Y0.out) Y0.out
  have z1 := blk_below hb2 (lt_of_block Y1.out) Y1.out
  have B2 := HB1.out.trans (hb2.mono HB1.out.size)
  have Z0 := hidE z0
  have Z1 := hidE z1
  have HB2 := hidE B2
  clear z0 z1 B2 hb2 f0 f1 f2
  cases hvb : valuesB N y with
  | false =>
    have hk : keptE N bs y = (0, false, 1) := by unfold keptE; rw [if_neg (by simp [HC.out]), if_pos hvb]
    have HK := hidE hk
    clear hvb hk
    go_wp2_with fail
    go_ret3
    exact ⟨by rw [HK.out]; rfl, HB2.out⟩
  | true =>
    have hk : keptE N bs y = (max (idxOf (keptB y) bs) 0, decide (idxOf (keptB y) bs < 0), 0) := by unfold keptE; rw [if_neg (by simp [HC.out]), if_neg (by rw [hvb]; simp)]
    obtain ⟨R, rfl⟩ := Int.eq_ofNat_of_zero_le (show 0 ≤ N by omega)
    obtain ⟨q1, q2, q3⟩ := valuesB_iff.1 hvb
    have e0 : w2.cell? ⟨w.heap.size, 0, none⟩ = some (.int .i64 (R : Int)) := c_e Z0.out rfl
    have e1 : w2.cell? ⟨w.heap.size, 1, none⟩ = some (.slice a bs.length cap) := c_e Z0.out rfl
    have l1 := lt_of_block Z1.out
    have hidx := indexFuncBounds_any w2 a cap bs 139 #[.pointer (some ⟨w.heap.size + 1, 0, none⟩)] (· < w2.heap.size) (keptB y) hl (H.out.below HB2.out (Nat.le_refl _)) (fun b hb => hb)
     (fun k hk W hkp => kept1_any W bs[k] R (w.heap.size + 1) a2 cap2 y (NV.out _ (List.getElem_mem _)).1 q1 (by omega) q3 ((H2.out.below HB2.out (Nat.le_refl _)).kept (fun b hb => hkp.same b hb) hkp.size) ((hkp.cell (by show w.heap.size + 1 < _; exact l1)).trans (cell_of_one Z1.out)) (Nat.lt_of_lt_of_le l1 hkp.size))
     (enters_of Tryz.func139 (by kernel_rfl) rfl)
    obtain ⟨ix, hix⟩ : ∃ x, idxOf (keptB y) bs = x := ⟨_, rfl⟩
    rw [hix] at hidx hk
    have HI := hidE hidx
    have HK := hidE hk
    clear hvb hk hidx hix q1 q2 q3
    go_wp2_with fail
    refine HI.out.mono ?_
    rintro e w3 ⟨rfl, hb3⟩
    have HB3 := hidE (HB2.out.trans (hb3.mono HB2.out.size))
    clear hb3 e0 e1
    go_wp2_with fail
    go_ret3
    exact ⟨by rw [HK.out]; rfl, HB3.out⟩
 ·have hk : keptE N bs y = (0, false, checkP N bs) := by unfold keptE; rw [if_pos hc]
  obtain ⟨c, hcc⟩ : ∃ c, checkP N bs = c := ⟨_, rfl⟩
  rw [hcc] at hk hc hck
  have hc2 : (c != 0) = true := by simpa using hc
  have HCK := hidE hck
  have HK := hidE hk
  have X0 := hidE x0
  have B0 := hidE b0
  have HW := hidE hW0
  clear hck hk hc hcc h h2 hN x0 x1 b0 hW0
  go_enter Tryz.func67, Tryz.ntmps67
  go_upto_region 1 with fail
  rw [← HW.out]
  have e0 : W0.cell? ⟨w.heap.size, 0, none⟩ = some (.int .i64 N) := c_e X0.out rfl
  have e1 : W0.cell? ⟨w.heap.size, 1, none⟩ = some (.slice a bs.length cap) := c_e X0.out rfl
  go_wp2_with fail
  refine HCK.out.mono ?_
  rintro e w1 ⟨rfl, hb1⟩
  clear e0 e1
  go_wp2_with fail
  go_ret3
  exact ⟨by rw [HK.out]; rfl, B0.out.trans (hb1.mono B0.out.size)⟩
end Go.Proofs.YthjmkmjojlfejaaGreat
namespace Go.Proofs.YthjmkmjojlfejaaGreat
theorem BestOk.carry {N : Nat} {bs : List Bd} {w y fl : List Int} (h : BestOk N bs w y fl) : Carry N bs w fl := ⟨fun j => (h.fb j).1, h.net⟩
theorem BestOk.keeps {N : Nat} {bs : List Bd} {w y fl : List Int} (h : BestOk N bs w y fl) : Keeps N bs y := ⟨h.yl, h.y0, fun v hv => by
 obtain ⟨j, e⟩ := mem_getD hv
 have := h.yb j
 omega, fun b hb => by have := h.kept b hb; omega⟩
theorem BestOk.form {N : Nat} {bs : List Bd} {w y fl : List Int} (h : BestOk N bs w y fl) (hl : w.length = N) : costOf bs fl = formP w y := by
 rw [h.cost]; unfold formP; rw [hl]
structure Ends (n : Nat) (bs : List Bd) (w : List Int) (f : Nat) (R : Option BestR) (g : Nat) (S : Option BestR) : Prop where
 hi : BestRun n bs w f R
 ho : ∀ r, R = some r → BestOk n bs w r.y r.flow ∧ r.n = formP w r.y
 lo : BestRun n bs (w.map (-·)) g S
 lk : ∀ r, S = some r → BestOk n bs (w.map (-·)) r.y r.flow ∧ r.n = formP (w.map (-·)) r.y
theorem map_neg_getD (w : List Int) (v : Nat) : (w.map (-·)).getD v 0 = -w.getD v 0 := by
 simp only [List.getD_eq_getElem?_getD, List.getElem?_map]
 cases w[v]? <;> simp
theorem form_neg (w y : List Int) : formP (w.map (-·)) y = -formP w y := by
 unfold formP
 rw [List.length_map]
 have := sumN_mul (-1) (fun i => w.getD i 0 * y.getD i 0) w.length
 rw [show (-1 : Int) * sumN (fun i => w.getD i 0 * y.getD i 0) w.length = -sumN (fun i => w.getD i 0 * y.getD i 0) w.length by omega] at this
 rw [← this]
 refine sumN_congr fun i _ => ?_
 rw [map_neg_getD, Int.neg_mul, Int.neg_mul, Int.one_mul]
end Go.Proofs.YthjmkmjojlfejaaGreat
namespace Go.Proofs.YthjmkmjojlfejaaGreat
open Go Go.RowKit Go.Shelf
set_option maxRecDepth 100000 in
set_option maxHeartbeats 2000000 in
theorem pgreatest_any (w : World) (N : Nat) (a : Option Addr) (cap : Nat) (bs : List Bd) (a2 : Option Addr) (cap2 : Nat) (wt : List Int) (f : Nat) (R : Option BestR) (h1 : 1 ≤ N) (hN : N ≤ 128) (hl : bs.length ≤ 4000) (hv : AllValid N bs)
 (hB : BoundsAt w a bs) (hW : IntsAt w a2 wt) (hwl : wt.length = N) (hwb : ∀ v ∈ wt, -1000000 ≤ v ∧ v ≤ 1000000) (hrun : BestRun N bs wt f R) :
 Calls Tryz.prog 135 #[.agg #[.int .i64 (N : Int), .slice a bs.length cap, .slice a2 N cap2]] w fun e w' => BestPost R w.heap.size e w' ∧ Below w.heap.size w w' := by
 obtain ⟨W0, hW0⟩ : ∃ W0, W0 = w.alloc (.cells #[.int .i64 (N : Int), .slice a bs.length cap, .slice a2 N cap2] 141) := ⟨_, rfl⟩
 have B0 := hidE (show Below w.heap.size w W0 by rw [hW0]; exact (Below.refl _ _).alloc (Nat.le_refl _) _)
 have X0 := hidE (show W0.heap[w.heap.size]? = some (.cells #[.int .i64 (N : Int), .slice a bs.length cap, .slice a2 N cap2] 141 (0,0)) by rw [hW0]; exact heap_alloc_new _ _)
 have HB := hidE (best_any W0 N a cap bs a2 cap2 wt f R h1 hN hl hv (hB.below B0.out (Nat.le_refl _)) (hW.below B0.out (Nat.le_refl _)) hwl hwb hrun)
 clear hv hB hW hwl hwb hrun
 have c0 : W0.cell? ⟨w.heap.size, 0, none⟩ = some (.int .i64 (N : Int)) := c_e X0.out rfl
 have c1 : W0.cell? ⟨w.heap.size, 1, none⟩ = some (.slice a bs.length cap) := c_e X0.out rfl
 have c2 : W0.cell? ⟨w.heap.size, 2, none⟩ = some (.slice a2 N cap2) := c_e X0.out rfl
 go_enter Tryz.func135, Tryz.ntmps135
 go_upto_region 1 with fail
 rw [← hW0]
 clear hW0
 go_wp2_with fail
 refine HB.out.mono ?_
 rintro e w2 ⟨hp, hb2⟩
 have BB := hidE (B0.out.trans (hb2.mono B0.out.size))
 have hsz := B0.out.size
 clear hb2 HB c0 c1 c2
 cases R with
 | none =>
   obtain rfl := hp
   go_wp2_with fail
   refine bodyPost_ret (v := .tuple #[.int .i64 0, .slice none 0 0, .slice none 0 0, .int .i64 50]) (by simp [results, Tryz.results135, go_sem]) rfl ⟨rfl, BB.out⟩
 | some r =>
   obtain ⟨gy, gF, rfl, p1, p2, p3, p4, p5⟩ := hp
   have P4 := hidE p4
   have P5 := hidE p5
   clear p4 p5
   go_wp2_with fail
   refine bodyPost_ret (v := .tuple #[.int .i64 r.n, .slice (some ⟨gy, 0, none⟩) r.y.length r.y.length, .slice (some ⟨gF, 0, none⟩) r.flow.length r.flow.length, .int .i64 0]) (by simp [results, Tryz.results135, go_sem]) rfl ⟨⟨gy, gF, rfl, by omega, by omega, p3, P4.out, P5.out⟩, BB.out⟩
set_option maxRecDepth 100000 in
set_option maxHeartbeats 4000000 in
theorem pleast_any (w : World) (N : Nat) (a : Option Addr) (cap : Nat) (bs : List Bd) (a2 : Option Addr) (cap2 : Nat) (wt : List Int) (f : Nat) (R : Option BestR) (h1 : 1 ≤ N) (hN : N ≤ 128) (hl : bs.length ≤ 2000) (hv : AllValid N bs)
 (hB : BoundsAt w a bs) (hW : IntsAt w a2 wt) (hwl : wt.length = N) (hwb : ∀ v ∈ wt, -1000000 ≤ v ∧ v ≤ 1000000) (hrun : BestRun N bs (wt.map (-·)) f R) :
 Calls Tryz.prog 134 #[.agg #[.int .i64 (N : Int), .slice a bs.length cap, .slice a2 N cap2]] w fun e w' => BestPost (R.map fun r => ⟨-r.n, r.y, r.flow⟩) w.heap.size e w' ∧ Below w.heap.size w w' := by
 obtain ⟨W0, hW0⟩ : ∃ W0, W0 = w.alloc (.cells #[.int .i64 (N : Int), .slice a bs.length cap, .slice a2 N cap2] 141) := ⟨_, rfl⟩
 have B0 := hidE (show Below w.heap.size w W0 by rw [hW0]; exact (Below.refl _ _).alloc (Nat.le_refl _) _)
 have X0 := hidE (show W0.heap[w.heap.size]? = some (.cells #[.int .i64 (N : Int), .slice a bs.length cap, .slice a2 N cap2] 141 (0,0)) by rw [hW0]; exact heap_alloc_new _ _)
 have hwl2 : (wt.map (-·)).length = N := by rw [List.length_map]; exact hwl
 have hwb2 : ∀ v ∈ wt.map (-·), -1000000 ≤ v ∧ v ≤ 1000000 := fun v hv => by obtain ⟨x, hx, rfl⟩ := List.mem_map.1 hv; have := hwb x hx; omega
 have HOP := hidE (fun (W : World) (hb : Below w.heap.size w W) => show Calls Tryz.prog 79 #[.slice a2 N cap2] W _ by
  have q := opposite_any W a2 cap2 wt (by omega) (hW.below hb (Nat.le_refl _)) hwb
  rw [hwl] at q
  exact q)
 have HBW := hidE (fun (W : World) (A : Option Addr) (hb : Below w.heap.size w W) (hA : IntsAt W A (wt.map (-·))) => best_any W N a cap bs A N (wt.map (-·)) f R h1 hN (by omega) hv (hB.below hb (Nat.le_refl _)) hA hwl2 hwb2 hrun)
 have HNB := hidE (fun r (hr : R = some r) => best_n_bd h1 hN hv hrun hwl2 hwb2 r hr)
 have l0 := lt_of_block X0.out
 clear hv hB hW hwl hwb hrun hwl2 hwb2
 go_enter Tryz.func134, Tryz.ntmps134
 go_upto_region 1 with fail
 rw [← hW0]
 clear hW0
 refine wp_region_F (S := fun V => V.heap[w.heap.size]? = some (.cells #[.int .i64 (N : Int), .slice a bs.length cap, .slice a2 N cap2] 141 (0,0))) (last := 100) (by kernel_rfl) ?_
 have hS0 : W0.drew.heap[w.heap.size]? = some (.cells #[.int .i64 (N : Int), .slice a bs.length cap, .slice a2 N cap2] 141 (0,0)) := X0.out
 refine t_n 0 11 (.pointer (some ⟨w.heap.size, 0, none⟩)) rfl (by kernel_rfl) rfl (fun _ _ _ h => h) (fun V hV => ?_) hS0 ?_
 ·simp [go_sem, execOp]
 try simp only [s_a, s_b, s_c]
 refine t_n 1 12 (.agg #[.int .i64 (N : Int), .slice a bs.length cap]) rfl (by kernel_rfl) rfl (fun _ _ _ h => h) (fun V hV => ?_) hS0 ?_
 ·have z0 : V.cell? ⟨w.heap.size, 0, none⟩ = some (.int .i64 (N : Int)) := c_e hV rfl
  have z1 : V.cell? ⟨w.heap.size, 1, none⟩ = some (.slice a bs.length cap) := c_e hV rfl
  simp [go_sem, execOp, z0, z1]
 try simp only [s_a, s_b, s_c]
 refine t_n 2 13 (.pointer (some ⟨w.heap.size, 2, none⟩)) rfl (by kernel_rfl) rfl (fun _ _ _ h => h) (fun V hV => ?_) hS0 ?_
 ·simp [go_sem, execOp]
 try simp only [s_a, s_b, s_c]
 refine t_n 3 14 (.slice a2 N cap2) rfl (by kernel_rfl) rfl (fun _ _ _ h => h) (fun V hV => ?_) hS0 ?_
 ·have z2 : V.cell? ⟨w.heap.size, 2, none⟩ = some (.slice a2 N cap2) := c_e hV rfl
  simp [go_sem, execOp, z2]
 try simp only [s_a, s_b, s_c]
 refine wpAnyF_step 4 rfl (by kernel_rfl) (fun K hK => ?_)
 go_simp
 go_at_call 79
 refine (HOP.out _ B0.out.drew).mono ?_
 rintro e w2 ⟨rfl, ho2, hb2⟩
 have B2 := hidE (B0.out.trans ((show Below W0.heap.size W0 w2 from (Below.refl _ _).drew.trans hb2).mono B0.out.size))
 have X2 := hidE (blk_below (show Below W0.heap.size W0 w2 from (Below.refl _ _).drew.trans hb2) l0 X0.out)
 have hints : IntsAt w2 (some ⟨W0.heap.size, 0, none⟩) (wt.map (-·)) := ints_row ho2
 have H75 := hidE (HBW.out w2 _ B2.out hints)
 clear hb2 ho2 hints
 go_wp2_with fail
 have hS1 := X2.out
 refine hK.out _ _ (.inr hS1) ?_
 clear hK K
 try simp only [Act.put, s_a, s_b, s_c]
 refine wpAnyF_step 5 rfl (by kernel_rfl) (fun K hK => ?_)
 go_simp
 go_at_call 75
 refine H75.out.mono ?_
 rintro e w3 ⟨hp, hb3⟩
 have BB := hidE (B2.out.trans (hb3.mono B2.out.size))
 have hS2 := blk_below hb3 (lt_of_block X2.out) X2.out
 have hbs := B2.out.size
 clear hb3 H75 hS1 hS0
 cases hR : R with
 | none =>
   rw [hR] at hp
   obtain rfl := hp
   go_wp2_with fail
   refine hK.out _ _ (.inr hS2) ?_
   clear hK K
   try simp only [Act.put, s_a, s_b, s_c]
   refine t_n 6 10 (.tuple #[.int .i64 0, .slice none 0 0, .slice none 0 0, .int .i64 50]) rfl (by kernel_rfl) rfl (fun _ _ _ h => h) (fun V hV => ?_) hS2 ?_
   ·simp [go_sem, execOp]
   try simp only [s_a, s_b, s_c]
   refine t_n 7 17 (.int .i64 0) rfl (by kernel_rfl) rfl (fun _ _ _ h => h) (fun V hV => ?_) hS2 ?_
   ·simp [go_sem, execOp]
   try simp only [s_a, s_b, s_c]
   refine t_n 8 18 (.slice none 0 0) rfl (by kernel_rfl) rfl (fun _ _ _ h => h) (fun V hV => ?_) hS2 ?_
   ·simp [go_sem, execOp]
   try simp only [s_a, s_b, s_c]
   refine t_n 9 19 (.slice none 0 0) rfl (by kernel_rfl) rfl (fun _ _ _ h => h) (fun V hV => ?_) hS2 ?_
   ·simp [go_sem, execOp]
   try simp only [s_a, s_b, s_c]
   refine t_n 10 20 (.int .i64 50) rfl (by kernel_rfl) rfl (fun _ _ _ h => h) (fun V hV => ?_) hS2 ?_
   ·simp [go_sem, execOp]
   try simp only [s_a, s_b, s_c]
   refine t_n 11 6 (.int .i64 0) rfl (by kernel_rfl) rfl (fun _ _ _ h => h) (fun V hV => ?_) hS2 ?_
   ·simp [go_sem, execOp]
   try simp only [s_a, s_b, s_c]
   refine t_n 12 7 (.slice none 0 0) rfl (by kernel_rfl) rfl (fun _ _ _ h => h) (fun V hV => ?_) hS2 ?_
   ·simp [go_sem, execOp]
   try simp only [s_a, s_b, s_c]
   refine t_n 13 8 (.slice none 0 0) rfl (by kernel_rfl) rfl (fun _ _ _ h => h) (fun V hV => ?_) hS2 ?_
   ·simp [go_sem, execOp]
   try simp only [s_a, s_b, s_c]
   refine t_n 14 9 (.int .i64 50) rfl (by kernel_rfl) rfl (fun _ _ _ h => h) (fun V hV => ?_) hS2 ?_
   ·simp [go_sem, execOp]
   try simp only [s_a, s_b, s_c]
   refine wpAnyF_done (by kernel_rfl) ?_ _
   go_wp2_with fail
   refine bodyPost_ret (v := .tuple #[.int .i64 0, .slice none 0 0, .slice none 0 0, .int .i64 50]) (by simp [results, Tryz.results134, go_sem]) rfl ⟨by first | rfl | (rw [hR]; rfl), BB.out⟩
 | some r =>
   rw [hR] at hp
   obtain ⟨gy, gF, rfl, p1, p2, p3, p4, p5⟩ := hp
   have hrb := HNB.out r hR
   have wneg : IntKind.i64.wrap (-r.n) = -r.n := IntWalk.i64_in _ (by omega)
   have P4 := hidE p4
   have P5 := hidE p5
   clear p4 p5
   go_wp2_with fail
   refine hK.out _ _ (.inr hS2) ?_
   clear hK K
   try simp only [Act.put, s_a, s_b, s_c]
   refine t_n 6 10 (.tuple #[.int .i64 r.n, .slice (some ⟨gy, 0, none⟩) r.y.length r.y.length, .slice (some ⟨gF, 0, none⟩) r.flow.length r.flow.length, .int .i64 0]) rfl (by kernel_rfl) rfl (fun _ _ _ h => h) (fun V hV => ?_) hS2 ?_
   ·simp [go_sem, execOp]
   try simp only [s_a, s_b, s_c]
   refine t_n 7 17 (.int .i64 r.n) rfl (by kernel_rfl) rfl (fun _ _ _ h => h) (fun V hV => ?_) hS2 ?_
   ·simp [go_sem, execOp]
   try simp only [s_a, s_b, s_c]
   refine t_n 8 18 (.slice (some ⟨gy, 0, none⟩) r.y.length r.y.length) rfl (by kernel_rfl) rfl (fun _ _ _ h => h) (fun V hV => ?_) hS2 ?_
   ·simp [go_sem, execOp]
   try simp only [s_a, s_b, s_c]
   refine t_n 9 19 (.slice (some ⟨gF, 0, none⟩) r.flow.length r.flow.length) rfl (by kernel_rfl) rfl (fun _ _ _ h => h) (fun V hV => ?_) hS2 ?_
   ·simp [go_sem, execOp]
   try simp only [s_a, s_b, s_c]
   refine t_n 10 20 (.int .i64 0) rfl (by kernel_rfl) rfl (fun _ _ _ h => h) (fun V hV => ?_) hS2 ?_
   ·simp [go_sem, execOp]
   try simp only [s_a, s_b, s_c]
   refine t_n 11 6 (.int .i64 r.n) rfl (by kernel_rfl) rfl (fun _ _ _ h => h) (fun V hV => ?_) hS2 ?_
   ·simp [go_sem, execOp]
   try simp only [s_a, s_b, s_c]
   refine t_n 12 7 (.slice (some ⟨gy, 0, none⟩) r.y.length r.y.length) rfl (by kernel_rfl) rfl (fun _ _ _ h => h) (fun V hV => ?_) hS2 ?_
   ·simp [go_sem, execOp]
   try simp only [s_a, s_b, s_c]
   refine t_n 13 8 (.slice (some ⟨gF, 0, none⟩) r.flow.length r.flow.length) rfl (by kernel_rfl) rfl (fun _ _ _ h => h) (fun V hV => ?_) hS2 ?_
   ·simp [go_sem, execOp]
   try simp only [s_a, s_b, s_c]
   refine t_n 14 9 (.int .i64 0) rfl (by kernel_rfl) rfl (fun _ _ _ h => h) (fun V hV => ?_) hS2 ?_
   ·simp [go_sem, execOp]
   try simp only [s_a, s_b, s_c]
   refine wpAnyF_done (by kernel_rfl) ?_ _
   go_wp2_with fail
   refine bodyPost_ret (v := .tuple #[.int .i64 (-r.n), .slice (some ⟨gy, 0, none⟩) r.y.length r.y.length, .slice (some ⟨gF, 0, none⟩) r.flow.length r.flow.length, .int .i64 0]) (by simp [results, Tryz.results134, go_sem]) rfl ⟨?_, BB.out⟩
   first | exact ⟨gy, gF, rfl, by omega, by omega, p3, P4.out, P5.out⟩ | (rw [hR]; exact ⟨gy, gF, rfl, by omega, by omega, p3, P4.out, P5.out⟩)
theorem sA {α : Type} (l : List α) (i : Nat) (a : α) : l.toArray.setIfInBounds i a = (l.set i a).toArray := List.setIfInBounds_toArray ..
theorem sB {α : Type} (x : α) (l : List α) (n : Nat) (a : α) : (x :: l).set (n + 1) a = x :: l.set n a := List.set_cons_succ ..
theorem sC {α : Type} (x : α) (l : List α) (a : α) : (x :: l).set 0 a = a :: l := List.set_cons_zero ..
def tkB (md : Region.Mode) (ops : Array Oper) (listed : Array Bool) (i d : Nat) : Bool :=
 Region.noSelect ops && Region.free md ops listed i && (Region.ready md ops listed).contains i && (match ops[i]? with | some o => o.dst == some d | none => false)
theorem tkB_spec {md : Region.Mode} {ops : Array Oper} {listed : Array Bool} {i d : Nat} {oi : Oper} (hi : ops[i]? = some oi) (h : tkB md ops listed i d = true) :
 oi.dst = some d ∧ Region.noSelect ops = true ∧ Region.free md ops listed i = true ∧ (Region.ready md ops listed).contains i = true := by
 unfold tkB at h
 rw [hi] at h
 simp only [Bool.and_eq_true, beq_iff_eq] at h
 exact ⟨h.2, h.1.1.1, h.1.1.2, h.1.2⟩
section
variable {P : Program} {ops : Array Oper} {Q : Exit → Act → World → Prop} {md : Region.Mode} {S2 S : World → Prop} {T : Nat → Bool} {last : Nat} {oi : Oper} {fuel : Nat} {listed : Array Bool} {a : Act} {w : World}
theorem tF (i d : Nat) (v : Value) (hi : ops[i]? = some oi) (hB : ((waitsAll md ops last && decide (i ≠ last) || decide (ops.size ≤ last)) && tkB md ops listed i d) = true)
 (hw : Region.wanted oi (yielded ops a.tmps) = true) (hQ : ∀ c a w, Q (.panic c) (a.put oi.dst v) w → Q (.panic c) a w) (hy : ∀ V, S V → (execOp a.eval oi).run P V = .ok (.value v) V) (hS : S w)
 (h : wpAnyF P md ops Q S last fuel (listed.setIfInBounds i true) { a with tmps := a.tmps.setIfInBounds d v } w) : wpAnyF P md ops Q S last (fuel + 1) listed a w := by
 simp only [Bool.and_eq_true, Bool.or_eq_true, decide_eq_true_eq] at hB
 obtain ⟨h1, h2, h3, h4⟩ := tkB_spec hi hB.2
 rcases hB.1 with q | q
 ·exact wpAnyF_takeD q.1 q.2 hi h1 h2 h3 h4 hQ (.inl ⟨hw, hy⟩) hS h
 ·exact wpAnyN_takeD q hi h1 h2 h3 h4 hQ (.inl ⟨hw, hy⟩) hS h
end
theorem ce {w : World} {b i : Nat} {cs : Array Value} {t : TypeId} {v : Value} (h : w.heap[b]? = some (.cells cs t (0,0))) (hv : cs[i]? = some v) : w.cell? ⟨b, i, none⟩ = some v := by
 rw [cell_of_row _ _ _ _ _ _ h]; exact hv
theorem fld4 {w : World} {b : Nat} {c0 c1 c2 c3 : Value} {t : TypeId} (h : w.heap[b]? = some (.cells #[c0, c1, c2, c3] t (0,0))) :
 w.cell? ⟨b, 0, none⟩ = some c0 ∧ w.cell? ⟨b, 1, none⟩ = some c1 ∧ w.cell? ⟨b, 2, none⟩ = some c2 ∧ w.cell? ⟨b, 3, none⟩ = some c3 :=
 ⟨ce h rfl, ce h rfl, ce h rfl, ce h rfl⟩
def Kb : List (Nat × Obj) → World → Prop
 | [], _ => True
 | (b, o) :: L, W => W.heap[b]? = some o ∧ Kb L W
theorem Kb.next {W W' : World} (hb : Below W.heap.size W W') : ∀ {L : List (Nat × Obj)}, Kb L W → Kb L W'
 | [], _ => trivial
 | (_, _) :: _, h => ⟨blk_below hb (lt_of_block h.1) h.1, Kb.next hb h.2⟩
theorem Kb.alloc {W : World} {o : Obj} {L : List (Nat × Obj)} (h : Kb L W) : Kb ((W.heap.size, o) :: L) (W.alloc o) :=
 ⟨heap_alloc_new _ _, Kb.next ((Below.refl _ _).alloc (Nat.le_refl _) _) h⟩
theorem Kb.drew {W : World} {L : List (Nat × Obj)} (h : Kb L W) : Kb L W.drew := Kb.next (Below.refl _ W).drew h
theorem Kb.drewN {W : World} {n : Nat} {L : List (Nat × Obj)} (h : Kb L W) : Kb L (W.drewN n) := Kb.next (below_drewN' _ _) h
structure FJ (w : World) (x : FV) (F : Fld) (a : Option Addr) (y : List Int) (W : World) : Prop where
 b : Below w.heap.size w W
 blk : W.heap[w.heap.size]? = some (.cells (x.arr F) 46 (0,0))
 fld : FldAt W x F
 ints : IntsAt W a y
theorem FJ.next {w W W' : World} {x : FV} {F : Fld} {a : Option Addr} {y : List Int} (h : FJ w x F a y W) (hb : Below W.heap.size W W') : FJ w x F a y W' :=
 ⟨h.b.trans (hb.mono h.b.size), blk_below hb (lt_of_block h.blk) h.blk, h.fld.below hb, h.ints.below hb (Nat.le_refl _)⟩
theorem FJ.begin {w : World} {x : FV} {F : Fld} {a : Option Addr} {y : List Int} (h : FldAt w x F) (h2 : IntsAt w a y) : FJ w x F a y (w.alloc (.cells (x.arr F) 46)) :=
 ⟨(Below.refl _ _).alloc (Nat.le_refl _) _, heap_alloc_new _ _, h.alloc _, h2.alloc _⟩
theorem FJ.alloc {w W : World} {x : FV} {F : Fld} {a : Option Addr} {y : List Int} (h : FJ w x F a y W) (o : Obj) : FJ w x F a y (W.alloc o) := h.next ((Below.refl _ _).alloc (Nat.le_refl _) _)
theorem FJ.c {w W : World} {x : FV} {F : Fld} {a : Option Addr} {y : List Int} (h : FJ w x F a y W) :
 W.cell? ⟨w.heap.size, 0, none⟩ = some (.slice x.aS F.sts.length x.cS) ∧ W.cell? ⟨w.heap.size, 1, none⟩ = some (.slice x.aL F.lms.length x.cL) ∧ W.cell? ⟨w.heap.size, 2, none⟩ = some (.slice x.aP F.prs.length x.cP) ∧ W.cell? ⟨w.heap.size, 3, none⟩ = some (.slice x.aV F.vrs.length x.cV) := fld4 h.blk
def zExt : Array Value := #[.int .i64 0, .int .i64 0, .slice none 0 0, .slice none 0 0, .slice none 0 0, .slice none 0 0]
def rowVal (g : Nat) (l : List Int) : Value := .slice (some ⟨g, 0, none⟩) l.length l.length
def Xst (S R : Option BestR) (base gX : Nat) : Nat → World → Prop
 | 0, W => W.heap[gX]? = some (.cells zExt 76 (0,0))
 | 1, W => ∃ s gy gF, S = some s ∧ base ≤ gy ∧ base ≤ gF ∧ gy ≠ gX ∧ gF ≠ gX ∧ Kb [(gX, .cells #[.int .i64 (-s.n), .int .i64 0, rowVal gy s.y, .slice none 0 0, rowVal gF s.flow, .slice none 0 0] 76), (gy, .cells (rowA s.y) 3), (gF, .cells (rowA s.flow) 3)] W
 | _, W => ∃ s r gy gF hy hF, S = some s ∧ R = some r ∧ base ≤ gy ∧ base ≤ gF ∧ base ≤ hy ∧ base ≤ hF ∧ gy ≠ gX ∧ gF ≠ gX ∧ hy ≠ gX ∧ hF ≠ gX ∧ Kb [(gX, .cells #[.int .i64 (-s.n), .int .i64 r.n, rowVal gy s.y, rowVal hy r.y, rowVal gF s.flow, rowVal hF r.flow] 76), (gy, .cells (rowA s.y) 3), (gF, .cells (rowA s.flow) 3), (hy, .cells (rowA r.y) 3), (hF, .cells (rowA r.flow) 3)] W
def EndsPost (err : Int) (S R : Option BestR) (base : Nat) (e : Ending) (w' : World) : Prop :=
 (err ≠ 0 ∧ e = .returned (.tuple #[.agg zExt, .int .i64 err])) ∨ (err = 0 ∧ (S = none ∨ R = none) ∧ e = .returned (.tuple #[.agg zExt, .int .i64 50])) ∨
 (err = 0 ∧ ∃ s r gy gF hy hF, S = some s ∧ R = some r ∧ base ≤ gy ∧ base ≤ gF ∧ base ≤ hy ∧ base ≤ hF ∧
  e = .returned (.tuple #[.agg #[.int .i64 (-s.n), .int .i64 r.n, rowVal gy s.y, rowVal hy r.y, rowVal gF s.flow, rowVal hF r.flow], .int .i64 0]) ∧
  Kb [(gy, .cells (rowA s.y) 3), (gF, .cells (rowA s.flow) 3), (hy, .cells (rowA r.y) 3), (hF, .cells (rowA r.flow) 3)] w')
theorem blk_ne {W : World} {a b : Nat} {c d : Array Value} {t u : TypeId} (h : W.heap[a]? = some (.cells c t (0,0))) (k : W.heap[b]? = some (.cells d u (0,0))) (hn : t ≠ u) : a ≠ b := by
 intro e
 rw [e, k] at h
 cases h
 exact hn rfl
theorem Kb.set {W : World} {g i : Nat} {v : Value} : ∀ {L : List (Nat × Obj)}, (∀ p ∈ L, p.1 ≠ g) → Kb L W → Kb L (W.setCell ⟨g, i, none⟩ v)
 | [], _, _ => trivial
 | (_b, _o) :: _L, h, k => ⟨(heap_setCell_other _ _ _ _ (h _ (List.mem_cons_self ..))).trans k.1, Kb.set (fun p hp => h p (List.mem_cons_of_mem _ hp)) k.2⟩
theorem ext_set {W : World} {g : Nat} (h : W.heap[g]? = some (.cells zExt 76 (0,0))) (v0 v1 v2 v3 v4 v5 : Value) :
 ((((((W.setCell ⟨g, 0, none⟩ v0).setCell ⟨g, 1, none⟩ v1).setCell ⟨g, 2, none⟩ v2).setCell ⟨g, 3, none⟩ v3).setCell ⟨g, 4, none⟩ v4).setCell ⟨g, 5, none⟩ v5).heap[g]? = some (.cells #[v0, v1, v2, v3, v4, v5] 76 (0,0)) :=
 heap_setCell_same _ _ 5 _ _ _ (heap_setCell_same _ _ 4 _ _ _ (heap_setCell_same _ _ 3 _ _ _ (heap_setCell_same _ _ 2 _ _ _ (heap_setCell_same _ _ 1 _ _ _ (heap_setCell_same _ _ 0 _ _ _ h)))))
theorem ext_zero {W : World} {g : Nat} (h : W.heap[g]? = some (.cells zExt 76 (0,0))) :
 ((((((W.setCell ⟨g, 0, none⟩ (.int .i64 0)).setCell ⟨g, 1, none⟩ (.int .i64 0)).setCell ⟨g, 2, none⟩ (.slice none 0 0)).setCell ⟨g, 3, none⟩ (.slice none 0 0)).setCell ⟨g, 4, none⟩ (.slice none 0 0)).setCell ⟨g, 5, none⟩ (.slice none 0 0)).heap[g]? = some (.cells zExt 76 (0,0)) :=
 heap_setCell_same _ _ 5 _ _ _ (heap_setCell_same _ _ 4 _ _ _ (heap_setCell_same _ _ 3 _ _ _ (heap_setCell_same _ _ 2 _ _ _ (heap_setCell_same _ _ 1 _ _ _ (heap_setCell_same _ _ 0 _ _ _ h)))))
set_option maxRecDepth 100000 in
set_option maxHeartbeats 4000000 in
theorem ends_any (w : World) (N : Nat) (a : Option Addr) (cap : Nat) (bs : List Bd) (a2 : Option Addr) (cap2 : Nat) (wt : List Int) (f : Nat) (R : Option BestR) (g : Nat) (S : Option BestR) (h1 : 1 ≤ N) (hN : N ≤ 128) (hl : bs.length ≤ 2000) (hv : AllValid N bs)
 (hB : BoundsAt w a bs) (hW : IntsAt w a2 wt) (hwl : wt.length = N) (hwb : ∀ v ∈ wt, -1000000 ≤ v ∧ v ≤ 1000000) (hR : consP N bs = 0 → BestRun N bs wt f R) (hS : consP N bs = 0 → BestRun N bs (wt.map (-·)) g S) :
 Calls Tryz.prog 123 #[.agg #[.int .i64 (N : Int), .slice a bs.length cap, .slice a2 N cap2]] w fun e w' => EndsPost (consP N bs) S R w.heap.size e w' ∧ Below w.heap.size w w' := by
 obtain ⟨w0, hw0⟩ : ∃ W, W = (w.alloc (.cells #[.int .i64 (N : Int), .slice a bs.length cap, .slice a2 N cap2] 141)).alloc (.cells zExt 76) := ⟨_, rfl⟩
 have B0 := hidE (show Below w.heap.size w w0 by rw [hw0]; exact ((Below.refl _ _).alloc (Nat.le_refl _) _).alloc (by simp) _)
 have Q0 := hidE (show Kb [(w.heap.size + 1, .cells zExt 76), (w.heap.size, .cells #[.int .i64 (N : Int), .slice a bs.length cap, .slice a2 N cap2] 141)] w0 by
  have := Kb.alloc (o := .cells zExt 76) (Kb.alloc (o := .cells #[.int .i64 (N : Int), .slice a bs.length cap, .slice a2 N cap2] 141) (L := []) (W := w) trivial)
  rw [hw0]; simpa using this)
 have HCO := hidE (fun (W : World) (hb : Below w.heap.size w W) => consistentA_any W (N : Int) a cap bs ⟨by omega, by omega⟩ (by omega) (hB.below hb (Nat.le_refl _)))
 have HGR := hidE (fun (W : World) (hb : Below w.heap.size w W) z => pgreatest_any W N a cap bs a2 cap2 wt f R h1 hN (by omega) hv (hB.below hb (Nat.le_refl _)) (hW.below hb (Nat.le_refl _)) hwl hwb (hR z))
 have HLE := hidE (fun (W : World) (hb : Below w.heap.size w W) z => pleast_any W N a cap bs a2 cap2 wt g S h1 hN hl hv (hB.below hb (Nat.le_refl _)) (hW.below hb (Nat.le_refl _)) hwl hwb (hS z))
 have c0 := ce (i := 0) Q0.out.2.1 rfl
 have c1 := ce (i := 1) Q0.out.2.1 rfl
 have c2 := ce (i := 2) Q0.out.2.1 rfl
 obtain ⟨E, hE⟩ : ∃ E, consP N bs = E := ⟨_, rfl⟩
 rw [hE] at HCO HGR HLE ⊢
 clear hv hB hW hwl hwb hR hS hE
 unfold zExt at hw0
 by_cases z : E = 0
 ·subst z
  go_enter Tryz.func123, Tryz.ntmps123
  go_upto_region 1 with fail
  rw [← hw0]
  clear hw0
  go_wp2_with fail
  refine (HCO.out _ B0.out).mono ?_
  rintro e w1 ⟨rfl, hb⟩
  have B1 := hidE (B0.out.trans (hb.mono B0.out.size))
  have Q1 := hidE (Q0.out.next hb)
  clear hb HCO c0 c1 c2
  go_upto_region 5 with fail
  obtain ⟨w2, hw2⟩ : ∃ W, W = w1.alloc (.cells zExt 76) := ⟨_, rfl⟩
  unfold zExt at hw2
  rw [← hw2]
  have B2 := hidE (show Below w.heap.size w w2 by rw [hw2]; exact B1.out.alloc B1.out.size _)
  have Q2 := hidE (show Kb [(w1.heap.size, .cells zExt 76), (w.heap.size + 1, .cells zExt 76), (w.heap.size, .cells #[.int .i64 (N : Int), .slice a bs.length cap, .slice a2 N cap2] 141)] w2 by rw [hw2]; exact Kb.alloc (o := .cells zExt 76) Q1.out)
  obtain ⟨gX, hgX⟩ : ∃ g, w1.heap.size = g := ⟨_, rfl⟩
  have HgX := hidE (show w.heap.size + 1 < gX by have := lt_of_block Q1.out.1; omega)
  rw [hgX] at Q2 ⊢
  clear hw2 hgX B1 Q1
  have c0 := ce (i := 0) Q2.out.2.2.1 rfl
  have c1 := ce (i := 1) Q2.out.2.2.1 rfl
  have c2 := ce (i := 2) Q2.out.2.2.1 rfl
  go_wp2_with fail
  obtain ⟨w3, hw3⟩ : ∃ W, W = w2.alloc (.cells #[.func (.func 134) #[.agg #[.int .i64 (N : Int), .slice a bs.length cap, .slice a2 N cap2]] #[], .func (.func 135) #[.agg #[.int .i64 (N : Int), .slice a bs.length cap, .slice a2 N cap2]] #[]] 147) := ⟨_, rfl⟩
  rw [← hw3]
  have B3 := hidE (show Below w.heap.size w w3 by rw [hw3]; exact B2.out.alloc B2.out.size _)
  have Q3 := hidE (show Kb _ w3 by rw [hw3]; exact Kb.alloc (o := .cells #[.func (.func 134) #[.agg #[.int .i64 (N : Int), .slice a bs.length cap, .slice a2 N cap2]] #[], .func (.func 135) #[.agg #[.int .i64 (N : Int), .slice a bs.length cap, .slice a2 N cap2]] #[]] 147) Q2.out)
  obtain ⟨gC, hgC⟩ : ∃ g, w2.heap.size = g := ⟨_, rfl⟩
  have HgC := hidE (show gX < gC by have := lt_of_block Q2.out.1; omega)
  rw [hgC] at Q3 ⊢
  clear hw3 hgC B2 Q2 c0 c1 c2
  obtain ⟨q1, q2, q3, _⟩ := Q3.out
  have HX0 : Hid (Xst S R w.heap.size gX 0 w3) := hidE q2
  have HK0 := hidE (show Kb [(gC, .cells #[.func (.func 134) #[.agg #[.int .i64 (N : Int), .slice a bs.length cap, .slice a2 N cap2]] #[], .func (.func 135) #[.agg #[.int .i64 (N : Int), .slice a bs.length cap, .slice a2 N cap2]] #[]] 147), (w.heap.size + 1, .cells zExt 76)] w3 from ⟨q1, q3, trivial⟩)
  clear q1 q2 q3 Q3
  go_loopw [25] (fun i wr => ∃ k : Nat, k ≤ 2 ∧ i = .int .i64 k ∧ Hid (Below w.heap.size w wr) ∧ Hid (Kb [(gC, .cells #[.func (.func 134) #[.agg #[.int .i64 (N : Int), .slice a bs.length cap, .slice a2 N cap2]] #[], .func (.func 135) #[.agg #[.int .i64 (N : Int), .slice a bs.length cap, .slice a2 N cap2]] #[]] 147), (w.heap.size + 1, .cells zExt 76)] wr) ∧ Hid (Xst S R w.heap.size gX k wr)) (fun i _ => 2 - (intOf i).toNat)
  case atStart => exact ⟨0, by omega, rfl, B3, HK0, HX0⟩
  case round =>
   obtain ⟨k, hk, rfl, HB, HK, HX⟩ := hrel
   obtain ⟨wx, rfl⟩ : ∃ x : World, x = wr := ⟨wr, rfl⟩
   rcases (show k = 0 ∨ k = 1 ∨ k = 2 by omega) with rfl | rfl | rfl
   ·have k0 := ce (i := 0) HK.out.1 rfl
    have HC := hidE (HLE.out wx HB.out trivial)
    have hX : wx.heap[gX]? = some (.cells zExt 76 (0,0)) := HX.out
    have HX1 := hidE hX
    clear hX HX
    go_wp2_with fail
    refine HC.out.mono ?_
    rintro e w4 ⟨hp, hb⟩
    have B4 := hidE (HB.out.trans (hb.mono HB.out.size))
    have K4 := hidE (HK.out.next hb)
    have X4 := hidE (blk_below hb (lt_of_block HX1.out) HX1.out)
    have hsz := HB.out.size
    have hsx := lt_of_block HX1.out
    clear hb HC HB HK HX1 k0
    cases S with
    | none =>
      obtain rfl := hp
      have HZ := hidE K4.out.2.1
      have z0 := ce (i := 0) HZ.out rfl
      have zf0 : w4.frozen? ⟨w.heap.size + 1, 0, none⟩ = false := frozen_of_row _ _ _ _ _ HZ.out
      have z1 := ce (i := 1) HZ.out rfl
      have zf1 : w4.frozen? ⟨w.heap.size + 1, 1, none⟩ = false := frozen_of_row _ _ _ _ _ HZ.out
      have z2 := ce (i := 2) HZ.out rfl
      have zf2 : w4.frozen? ⟨w.heap.size + 1, 2, none⟩ = false := frozen_of_row _ _ _ _ _ HZ.out
      have z3 := ce (i := 3) HZ.out rfl
      have zf3 : w4.frozen? ⟨w.heap.size + 1, 3, none⟩ = false := frozen_of_row _ _ _ _ _ HZ.out
      have z4 := ce (i := 4) HZ.out rfl
      have zf4 : w4.frozen? ⟨w.heap.size + 1, 4, none⟩ = false := frozen_of_row _ _ _ _ _ HZ.out
      have z5 := ce (i := 5) HZ.out rfl
      have zf5 : w4.frozen? ⟨w.heap.size + 1, 5, none⟩ = false := frozen_of_row _ _ _ _ _ HZ.out
      go_wp2_with fail
      try simp only [Exit.noGoto]
      refine bodyPost_ret (v := .tuple #[.agg zExt, .int .i64 50]) (results_cell_row2 Tryz.results123 _ _ (w.heap.size + 1) 76 zExt (0,0) _ rfl (ext_zero HZ.out) Tryz.underlying76 rfl (by kernel_rfl)) rfl ⟨.inr (.inl ⟨rfl, .inl rfl, rfl⟩), (((((B4.out.setCell (by simp) _).setCell (by simp) _).setCell (by simp) _).setCell (by simp) _).setCell (by simp) _).setCell (by simp) _⟩
    | some s =>
      obtain ⟨gy, gF, rfl, p1, p2, p3, p4, p5⟩ := hp
      have P4 := hidE p4
      have P5 := hidE p5
      clear p4 p5
      dsimp only at P4 P5
      have z0 := ce (i := 0) X4.out rfl
      have z2 := ce (i := 2) X4.out rfl
      have z4 := ce (i := 4) X4.out rfl
      have zf0 : w4.frozen? ⟨gX, 0, none⟩ = false := frozen_of_row _ _ _ _ _ X4.out
      have zf2 : w4.frozen? ⟨gX, 2, none⟩ = false := frozen_of_row _ _ _ _ _ X4.out
      have zf4 : w4.frozen? ⟨gX, 4, none⟩ = false := frozen_of_row _ _ _ _ _ X4.out
      go_wp2_with fail
      go_roundw
      case rel =>
       have h1' := HgX.out
       have h2' := HgC.out
       exact ⟨1, by omega, rfl, hidE (((B4.out.setCell (by dsimp only; omega) _).setCell (by dsimp only; omega) _).setCell (by dsimp only; omega) _), hidE (Kb.set (fun p hp => by simp only [List.mem_cons, List.not_mem_nil, or_false] at hp; rcases hp with rfl | rfl <;> (dsimp only; omega)) (Kb.set (fun p hp => by simp only [List.mem_cons, List.not_mem_nil, or_false] at hp; rcases hp with rfl | rfl <;> (dsimp only; omega)) (Kb.set (fun p hp => by simp only [List.mem_cons, List.not_mem_nil, or_false] at hp; rcases hp with rfl | rfl <;> (dsimp only; omega)) K4.out))),
        hidE ⟨s, gy, gF, rfl, by omega, by omega, by omega, by omega, heap_setCell_same _ _ 4 _ _ _ (heap_setCell_same _ _ 2 _ _ _ (heap_setCell_same _ _ 0 _ _ _ X4.out)), Kb.set (fun p hp => by simp only [List.mem_cons, List.not_mem_nil, or_false] at hp; rcases hp with rfl | rfl <;> (dsimp only; omega)) (Kb.set (fun p hp => by simp only [List.mem_cons, List.not_mem_nil, or_false] at hp; rcases hp with rfl | rfl <;> (dsimp only; omega)) (Kb.set (fun p hp => by simp only [List.mem_cons, List.not_mem_nil, or_false] at hp; rcases hp with rfl | rfl <;> (dsimp only; omega)) (show Kb [(gy, .cells (rowA s.y) 3), (gF, .cells (rowA s.flow) 3)] w4 from ⟨P4.out, P5.out, trivial⟩)))⟩⟩
      case measure => simp [intOf]
   ·have k1 := ce (i := 1) HK.out.1 rfl
    have HC := hidE (HGR.out wx HB.out trivial)
    obtain ⟨s, gy, gF, rfl, g1, g2, g3, g4, hX⟩ := (show Xst S R w.heap.size gX 1 wx from HX.out)
    have HX1 := hidE hX
    clear hX HX
    go_wp2_with fail
    refine HC.out.mono ?_
    rintro e w4 ⟨hp, hb⟩
    have B4 := hidE (HB.out.trans (hb.mono HB.out.size))
    have K4 := hidE (HK.out.next hb)
    have X4 := hidE (HX1.out.next hb)
    have hsz := HB.out.size
    have hsx := lt_of_block HX1.out.1
    clear hb HC HB HK HX1 k1
    cases R with
    | none =>
      obtain rfl := hp
      have HZ := hidE K4.out.2.1
      have z0 := ce (i := 0) HZ.out rfl
      have zf0 : w4.frozen? ⟨w.heap.size + 1, 0, none⟩ = false := frozen_of_row _ _ _ _ _ HZ.out
      have z1 := ce (i := 1) HZ.out rfl
      have zf1 : w4.frozen? ⟨w.heap.size + 1, 1, none⟩ = false := frozen_of_row _ _ _ _ _ HZ.out
      have z2 := ce (i := 2) HZ.out rfl
      have zf2 : w4.frozen? ⟨w.heap.size + 1, 2, none⟩ = false := frozen_of_row _ _ _ _ _ HZ.out
      have z3 := ce (i := 3) HZ.out rfl
      have zf3 : w4.frozen? ⟨w.heap.size + 1, 3, none⟩ = false := frozen_of_row _ _ _ _ _ HZ.out
      have z4 := ce (i := 4) HZ.out rfl
      have zf4 : w4.frozen? ⟨w.heap.size + 1, 4, none⟩ = false := frozen_of_row _ _ _ _ _ HZ.out
      have z5 := ce (i := 5) HZ.out rfl
      have zf5 : w4.frozen? ⟨w.heap.size + 1, 5, none⟩ = false := frozen_of_row _ _ _ _ _ HZ.out
      go_wp2_with fail
      try simp only [Exit.noGoto]
      refine bodyPost_ret (v := .tuple #[.agg zExt, .int .i64 50]) (results_cell_row2 Tryz.results123 _ _ (w.heap.size + 1) 76 zExt (0,0) _ rfl (ext_zero HZ.out) Tryz.underlying76 rfl (by kernel_rfl)) rfl ⟨.inr (.inl ⟨rfl, .inr rfl, rfl⟩), (((((B4.out.setCell (by simp) _).setCell (by simp) _).setCell (by simp) _).setCell (by simp) _).setCell (by simp) _).setCell (by simp) _⟩
    | some r =>
      obtain ⟨hy, hF, rfl, p1, p2, p3, p4, p5⟩ := hp
      have P4 := hidE p4
      have P5 := hidE p5
      clear p4 p5
      have z0 := ce (i := 1) X4.out.1 rfl
      have z2 := ce (i := 3) X4.out.1 rfl
      have z4 := ce (i := 5) X4.out.1 rfl
      have zf0 : w4.frozen? ⟨gX, 1, none⟩ = false := frozen_of_row _ _ _ _ _ X4.out.1
      have zf2 : w4.frozen? ⟨gX, 3, none⟩ = false := frozen_of_row _ _ _ _ _ X4.out.1
      have zf4 : w4.frozen? ⟨gX, 5, none⟩ = false := frozen_of_row _ _ _ _ _ X4.out.1
      go_wp2_with fail
      go_roundw
      case rel =>
       have h1' := HgX.out
       have h2' := HgC.out
       exact ⟨2, by omega, rfl, hidE (((B4.out.setCell (by dsimp only; omega) _).setCell (by dsimp only; omega) _).setCell (by dsimp only; omega) _), hidE (Kb.set (fun p hp => by simp only [List.mem_cons, List.not_mem_nil, or_false] at hp; rcases hp with rfl | rfl <;> (dsimp only; omega)) (Kb.set (fun p hp => by simp only [List.mem_cons, List.not_mem_nil, or_false] at hp; rcases hp with rfl | rfl <;> (dsimp only; omega)) (Kb.set (fun p hp => by simp only [List.mem_cons, List.not_mem_nil, or_false] at hp; rcases hp with rfl | rfl <;> (dsimp only; omega)) K4.out))),
        hidE ⟨s, r, gy, gF, hy, hF, rfl, rfl, by omega, by omega, by omega, by omega, by omega, by omega, by omega, by omega, heap_setCell_same _ _ 5 _ _ _ (heap_setCell_same _ _ 3 _ _ _ (heap_setCell_same _ _ 1 _ _ _ X4.out.1)), Kb.set (fun p hp => by simp only [List.mem_cons, List.not_mem_nil, or_false] at hp; rcases hp with rfl | rfl | rfl | rfl <;> (dsimp only; omega)) (Kb.set (fun p hp => by simp only [List.mem_cons, List.not_mem_nil, or_false] at hp; rcases hp with rfl | rfl | rfl | rfl <;> (dsimp only; omega)) (Kb.set (fun p hp => by simp only [List.mem_cons, List.not_mem_nil, or_false] at hp; rcases hp with rfl | rfl | rfl | rfl <;> (dsimp only; omega)) (show Kb [(gy, .cells (rowA s.y) 3), (gF, .cells (rowA s.flow) 3), (hy, .cells (rowA r.y) 3), (hF, .cells (rowA r.flow) 3)] w4 from ⟨X4.out.2.1, X4.out.2.2.1, P4.out, P5.out, trivial⟩)))⟩⟩
      case measure => simp [intOf]
   ·obtain ⟨s, r, gy, gF, hy, hF, rfl, rfl, g1, g2, g3, g4, g5, g6, g7, g8, hX⟩ := (show Xst S R w.heap.size gX 2 wx from HX.out)
    have HX1 := hidE hX
    clear hX HX
    unfold rowVal at HX1
    have HZ := hidE HK.out.2.1
    have z0 := ce (i := 0) HZ.out rfl
    have zf0 : wx.frozen? ⟨w.heap.size + 1, 0, none⟩ = false := frozen_of_row _ _ _ _ _ HZ.out
    have z1 := ce (i := 1) HZ.out rfl
    have zf1 : wx.frozen? ⟨w.heap.size + 1, 1, none⟩ = false := frozen_of_row _ _ _ _ _ HZ.out
    have z2 := ce (i := 2) HZ.out rfl
    have zf2 : wx.frozen? ⟨w.heap.size + 1, 2, none⟩ = false := frozen_of_row _ _ _ _ _ HZ.out
    have z3 := ce (i := 3) HZ.out rfl
    have zf3 : wx.frozen? ⟨w.heap.size + 1, 3, none⟩ = false := frozen_of_row _ _ _ _ _ HZ.out
    have z4 := ce (i := 4) HZ.out rfl
    have zf4 : wx.frozen? ⟨w.heap.size + 1, 4, none⟩ = false := frozen_of_row _ _ _ _ _ HZ.out
    have z5 := ce (i := 5) HZ.out rfl
    have zf5 : wx.frozen? ⟨w.heap.size + 1, 5, none⟩ = false := frozen_of_row _ _ _ _ _ HZ.out
    have x0 := ce (i := 0) HX1.out.1 rfl
    have x1 := ce (i := 1) HX1.out.1 rfl
    have x2 := ce (i := 2) HX1.out.1 rfl
    have x3 := ce (i := 3) HX1.out.1 rfl
    have x4 := ce (i := 4) HX1.out.1 rfl
    have x5 := ce (i := 5) HX1.out.1 rfl
    go_wp2_with fail
    try simp only [Exit.noGoto]
    obtain ⟨b1, b2, b3, b4, _⟩ := HX1.out.2
    have n1 := blk_ne b1 HZ.out (by decide)
    have n2 := blk_ne b2 HZ.out (by decide)
    have n3 := blk_ne b3 HZ.out (by decide)
    have n4 := blk_ne b4 HZ.out (by decide)
    have HNE : ∀ p ∈ [(gy, Obj.cells (rowA s.y) 3), (gF, .cells (rowA s.flow) 3), (hy, .cells (rowA r.y) 3), (hF, .cells (rowA r.flow) 3)], p.1 ≠ w.heap.size + 1 := (fun p hp => by simp only [List.mem_cons, List.not_mem_nil, or_false] at hp; rcases hp with rfl | rfl | rfl | rfl <;> assumption)
    refine bodyPost_ret (v := .tuple #[.agg #[.int .i64 (-s.n), .int .i64 r.n, rowVal gy s.y, rowVal hy r.y, rowVal gF s.flow, rowVal hF r.flow], .int .i64 0]) (results_cell_row2 Tryz.results123 _ _ (w.heap.size + 1) 76 _ (0,0) _ rfl (ext_set HZ.out _ _ _ _ _ _) Tryz.underlying76 rfl (by kernel_rfl)) rfl ⟨.inr (.inr ⟨rfl, s, r, gy, gF, hy, hF, rfl, rfl, g1, g2, g3, g4, rfl, Kb.set HNE (Kb.set HNE (Kb.set HNE (Kb.set HNE (Kb.set HNE (Kb.set HNE (HX1.out.2))))))⟩), (((((HB.out.setCell (by simp) _).setCell (by simp) _).setCell (by simp) _).setCell (by simp) _).setCell (by simp) _).setCell (by simp) _⟩
 ·have zb : (E != 0) = true := by simpa using z
  go_enter Tryz.func123, Tryz.ntmps123
  go_upto_region 1 with fail
  rw [← hw0]
  clear hw0
  go_wp2_with fail
  refine (HCO.out _ B0.out).mono ?_
  rintro e w1 ⟨rfl, hb⟩
  have B1 := hidE (B0.out.trans (hb.mono B0.out.size))
  have HZ := hidE (Q0.out.next hb).1
  clear hb HCO c0 c1 c2
  have z0 := ce (i := 0) HZ.out rfl
  have zf0 : w1.frozen? ⟨w.heap.size + 1, 0, none⟩ = false := frozen_of_row _ _ _ _ _ HZ.out
  have z1 := ce (i := 1) HZ.out rfl
  have zf1 : w1.frozen? ⟨w.heap.size + 1, 1, none⟩ = false := frozen_of_row _ _ _ _ _ HZ.out
  have z2 := ce (i := 2) HZ.out rfl
  have zf2 : w1.frozen? ⟨w.heap.size + 1, 2, none⟩ = false := frozen_of_row _ _ _ _ _ HZ.out
  have z3 := ce (i := 3) HZ.out rfl
  have zf3 : w1.frozen? ⟨w.heap.size + 1, 3, none⟩ = false := frozen_of_row _ _ _ _ _ HZ.out
  have z4 := ce (i := 4) HZ.out rfl
  have zf4 : w1.frozen? ⟨w.heap.size + 1, 4, none⟩ = false := frozen_of_row _ _ _ _ _ HZ.out
  have z5 := ce (i := 5) HZ.out rfl
  have zf5 : w1.frozen? ⟨w.heap.size + 1, 5, none⟩ = false := frozen_of_row _ _ _ _ _ HZ.out
  go_wp2_with fail
  try simp only [Exit.noGoto]
  refine bodyPost_ret (v := .tuple #[.agg zExt, .int .i64 E]) (results_cell_row2 Tryz.results123 _ _ (w.heap.size + 1) 76 zExt (0,0) _ rfl (ext_zero HZ.out) Tryz.underlying76 rfl (by kernel_rfl)) rfl ⟨.inl ⟨z, rfl⟩, (((((B1.out.setCell (by simp) _).setCell (by simp) _).setCell (by simp) _).setCell (by simp) _).setCell (by simp) _).setCell (by simp) _⟩
theorem first_any (w : World) (a : Option Addr) (cap : Nat) (x : List Int) (hl : x.length ≤ 4000) (h : IntsAt w a x) :
 Calls Tryz.prog 132 #[.slice a x.length cap] w fun e w' => e = .returned (.int .i64 (orP x)) ∧ w = w' := by
 have HO := hidE (or_any w a cap x hl h)
 clear h
 go_enter Tryz.func132, Tryz.ntmps132
 go_wp2_with fail
 refine HO.out.mono ?_
 rintro e w1 ⟨rfl, rfl⟩
 go_wp2_with fail
 go_ret
 exact ⟨rfl, rfl⟩
def fitE (F : Fld) (N : Int) (bs : List Bd) (ps : List Int) : Int := if F.check ≠ 0 then F.check else if checkP N bs ≠ 0 then checkP N bs else if N = F.points then fieldedE F ps else 1
theorem two_ints (W : World) (a b : Int) (t : TypeId) : IntsAt (W.alloc (.cells #[.int .i64 a, .int .i64 b] t)) (some ⟨W.heap.size, 0, none⟩) [a, b] := .inr ⟨W.heap.size, 0, rfl, by simp, fun j hj => by
 have hj2 : j = 0 ∨ j = 1 := by simp at hj; omega
 rcases hj2 with rfl | rfl <;> rw [cell_of_row _ _ _ _ _ _ (heap_alloc_new W _)] <;> rfl⟩
set_option maxRecDepth 100000 in
set_option maxHeartbeats 4000000 in
theorem fitting_any (w : World) (x : FV) (F : Fld) (N : Int) (a : Option Addr) (cap : Nat) (bs : List Bd) (a2 : Option Addr) (cap2 : Nat) (ps : List Int) (hF : FldAt w x F) (hN : i64ok N) (hl : bs.length ≤ 9223372036854775807) (h : BoundsAt w a bs) (hps : ps.length ≤ 4000) (h2 : IntsAt w a2 ps) :
 Calls Tryz.prog 122 #[x.val F, .agg #[.int .i64 N, .slice a bs.length cap], .slice a2 ps.length cap2] w fun e w' => e = .returned (.int .i64 (fitE F N bs ps)) ∧ Below w.heap.size w w' := by
 obtain ⟨W0, hW0⟩ : ∃ W0, W0 = (w.alloc (.cells (x.arr F) 46)).alloc (.cells #[.int .i64 N, .slice a bs.length cap] 24) := ⟨_, rfl⟩
 have B0 := hidE (show Below w.heap.size w W0 by rw [hW0]; exact ((Below.refl _ _).alloc (Nat.le_refl _) _).alloc (by simp) _)
 have X0 := hidE (show W0.heap[w.heap.size]? = some (.cells (x.arr F) 46 (0,0)) by rw [hW0]; exact heap_alloc2_old _ _ _)
 have S0 := hidE (show W0.heap[w.heap.size + 1]? = some (.cells #[.int .i64 N, .slice a bs.length cap] 24 (0,0)) by rw [hW0, heap_alloc2_new])
 have l0 : w.heap.size < W0.heap.size := lt_of_block X0.out
 have m0 : w.heap.size + 1 < W0.heap.size := lt_of_block S0.out
 have HCF := hidE (fun (W : World) (hb : Below w.heap.size w W) => checkField_any W x F (hF.below hb))
 have HCK := hidE (fun (W : World) (hb : Below w.heap.size w W) => check_any W N a cap bs hN hl (h.below hb (Nat.le_refl _)))
 have HPT := hidE (fun (W : World) (hb : Below w.heap.size w W) => pointsE_any W x F (hF.below hb))
 have HFI := hidE (fun (W : World) (hb : Below w.heap.size w W) => fielded_any W x F a2 cap2 ps hps (hF.below hb) (h2.below hb (Nat.le_refl _)))
 have hpe : F.check = 0 → pointsE F = F.points := fun e => by unfold pointsE; rw [if_neg (by omega)]
 obtain ⟨Q, hQ⟩ : ∃ Q, fitE F N bs ps = Q := ⟨_, rfl⟩
 rw [hQ]
 unfold fitE at hQ
 obtain ⟨c, hc⟩ : ∃ c, F.check = c := ⟨_, rfl⟩
 obtain ⟨c2, hc2⟩ : ∃ c, checkP N bs = c := ⟨_, rfl⟩
 obtain ⟨c3, hc3⟩ : ∃ c, fieldedE F ps = c := ⟨_, rfl⟩
 obtain ⟨P, hP⟩ : ∃ P, pointsE F = P := ⟨_, rfl⟩
 rw [hc] at HCF
 rw [hc2] at HCK
 rw [hc3] at HFI
 rw [hP] at HPT
 rw [hc, hc2, hc3] at hQ
 rw [hc, hP] at hpe
 have HPE := hidE hpe
 clear hc hc2 hc3 hP hpe hF h h2
 by_cases hz : c ≠ 0
 ·obtain rfl : c = Q := by rw [if_pos hz] at hQ; exact hQ
  have hzb : (c != 0) = true := by simpa using hz
  clear hz hQ
  unfold FV.val FV.arr at *
  go_enter Tryz.func122, Tryz.ntmps122
  go_upto_region 1 with fail
  rw [← hW0]
  have f0 : W0.cell? ⟨w.heap.size, 0, none⟩ = some (.slice x.aS F.sts.length x.cS) := c_e X0.out rfl
  have f1 : W0.cell? ⟨w.heap.size, 1, none⟩ = some (.slice x.aL F.lms.length x.cL) := c_e X0.out rfl
  have f2 : W0.cell? ⟨w.heap.size, 2, none⟩ = some (.slice x.aP F.prs.length x.cP) := c_e X0.out rfl
  have f3 : W0.cell? ⟨w.heap.size, 3, none⟩ = some (.slice x.aV F.vrs.length x.cV) := c_e X0.out rfl
  clear hW0
  go_wp2_with fail
  refine (HCF.out _ B0.out).mono ?_
  rintro e w1 ⟨rfl, hb1⟩
  have B1 := hidE (B0.out.trans (hb1.mono B0.out.size))
  clear hb1
  go_wp2_with fail
  go_ret
  exact ⟨rfl, B1.out⟩
 obtain rfl : c = 0 := Classical.not_not.1 hz
 rw [if_neg hz] at hQ
 have HPE2 := hidE (HPE.out rfl)
 clear hz HPE
 by_cases hz2 : c2 ≠ 0
 ·obtain rfl : c2 = Q := by rw [if_pos hz2] at hQ; exact hQ
  have hzb : (c2 != 0) = true := by simpa using hz2
  clear hz2 hQ
  unfold FV.val FV.arr at *
  go_enter Tryz.func122, Tryz.ntmps122
  go_upto_region 1 with fail
  rw [← hW0]
  have f0 : W0.cell? ⟨w.heap.size, 0, none⟩ = some (.slice x.aS F.sts.length x.cS) := c_e X0.out rfl
  have f1 : W0.cell? ⟨w.heap.size, 1, none⟩ = some (.slice x.aL F.lms.length x.cL) := c_e X0.out rfl
  have f2 : W0.cell? ⟨w.heap.size, 2, none⟩ = some (.slice x.aP F.prs.length x.cP) := c_e X0.out rfl
  have f3 : W0.cell? ⟨w.heap.size, 3, none⟩ = some (.slice x.aV F.vrs.length x.cV) := c_e X0.out rfl
  clear hW0
  go_wp2_with fail
  refine (HCF.out _ B0.out).mono ?_
  rintro e w1 ⟨rfl, hb1⟩
  have B1 := hidE (B0.out.trans (hb1.mono B0.out.size))
  have S1 := hidE (blk_below hb1 m0 S0.out)
  have g0 : w1.cell? ⟨w.heap.size + 1, 0, none⟩ = some (.int .i64 N) := c_e S1.out rfl
  have g1 : w1.cell? ⟨w.heap.size + 1, 1, none⟩ = some (.slice a bs.length cap) := c_e S1.out rfl
  clear hb1 f0 f1 f2 f3
  go_wp2_with fail
  refine (HCK.out _ B1.out).mono ?_
  rintro e w2 ⟨rfl, hb2⟩
  have B2 := hidE (B1.out.trans (hb2.mono B1.out.size))
  clear hb2
  go_wp2_with fail
  go_ret
  exact ⟨rfl, B2.out⟩
 obtain rfl : c2 = 0 := Classical.not_not.1 hz2
 rw [if_neg hz2] at hQ
 clear hz2
 obtain ⟨r1, hr1⟩ : ∃ r : Int, (if (N == P) then (0 : Int) else 1) = r := ⟨_, rfl⟩
 have HQ : Hid (orP [r1, c3] = Q) := hidE (by
  rw [← hQ, ← hr1, HPE2.out]
  by_cases e : N = F.points
  ·rw [if_pos e]; simp only [orP, e, beq_self_eq_true, if_true]; split <;> simp_all
  ·rw [if_neg e]; simp [orP, e])
 have HRT := hidE (fun W => right_any (N == P) W)
 rw [hr1] at HRT
 clear hQ hr1
 unfold FV.val FV.arr at *
 go_enter Tryz.func122, Tryz.ntmps122
 go_upto_region 1 with fail
 rw [← hW0]
 have f0 : W0.cell? ⟨w.heap.size, 0, none⟩ = some (.slice x.aS F.sts.length x.cS) := c_e X0.out rfl
 have f1 : W0.cell? ⟨w.heap.size, 1, none⟩ = some (.slice x.aL F.lms.length x.cL) := c_e X0.out rfl
 have f2 : W0.cell? ⟨w.heap.size, 2, none⟩ = some (.slice x.aP F.prs.length x.cP) := c_e X0.out rfl
 have f3 : W0.cell? ⟨w.heap.size, 3, none⟩ = some (.slice x.aV F.vrs.length x.cV) := c_e X0.out rfl
 clear hW0
 go_wp2_with fail
 refine (HCF.out _ B0.out).mono ?_
 rintro e w1 ⟨rfl, hb1⟩
 have B1 := hidE (B0.out.trans (hb1.mono B0.out.size))
 have S1 := hidE (blk_below hb1 m0 S0.out)
 have X1 := hidE (blk_below hb1 l0 X0.out)
 have l1 := lt_of_block X1.out
 have m1 := lt_of_block S1.out
 have g0 : w1.cell? ⟨w.heap.size + 1, 0, none⟩ = some (.int .i64 N) := c_e S1.out rfl
 have g1 : w1.cell? ⟨w.heap.size + 1, 1, none⟩ = some (.slice a bs.length cap) := c_e S1.out rfl
 clear hb1 f0 f1 f2 f3
 go_wp2_with fail
 refine (HCK.out _ B1.out).mono ?_
 rintro e w2 ⟨rfl, hb2⟩
 have B2 := hidE (B1.out.trans (hb2.mono B1.out.size))
 have S2 := hidE (blk_below hb2 m1 S1.out)
 have X2 := hidE (blk_below hb2 l1 X1.out)
 clear hb2 g0 g1 l1 m1
 go_upto_region 7 with fail
 have l2 := lt_of_block X2.out
 have hS0 : w2.drew.heap[w.heap.size]? = some (.cells #[.slice x.aS F.sts.length x.cS, .slice x.aL F.lms.length x.cL, .slice x.aP F.prs.length x.cP, .slice x.aV F.vrs.length x.cV] 46 (0,0)) ∧ w2.drew.heap[w.heap.size + 1]? = some (.cells #[.int .i64 N, .slice a bs.length cap] 24 (0,0)) := ⟨X2.out, S2.out⟩
 refine wp_region_F (S := fun V => V.heap[w.heap.size]? = some (.cells #[.slice x.aS F.sts.length x.cS, .slice x.aL F.lms.length x.cL, .slice x.aP F.prs.length x.cP, .slice x.aV F.vrs.length x.cV] 46 (0,0)) ∧ V.heap[w.heap.size + 1]? = some (.cells #[.int .i64 N, .slice a bs.length cap] 24 (0,0))) (last := 11) (by kernel_rfl) ?_
 refine wpAnyF_take (i := 0) (v := .pointer (some ⟨w.heap.size + 1, 0, none⟩)) (by kernel_rfl) (by decide) rfl (by kernel_rfl) (by kernel_rfl) (by kernel_rfl) (fun _ _ _ h => h) (.inl ⟨rfl, fun V hV => ?_⟩) hS0 ?_
 ·simp [go_sem, execOp]
 try simp only [Act.put, List.setIfInBounds_toArray]
 refine wpAnyF_take (i := 1) (v := .int .i64 N) (by kernel_rfl) (by decide) rfl (by kernel_rfl) (by kernel_rfl) (by kernel_rfl) (fun _ _ _ h => h) (.inl ⟨rfl, fun V hV => ?_⟩) hS0 ?_
 ·have z0 : V.cell? ⟨w.heap.size + 1, 0, none⟩ = some (.int .i64 N) := c_e hV.2 rfl
  simp [go_sem, execOp, z0]
 try simp only [Act.put]
 refine wpAnyF_take (i := 2) (v := .agg #[.slice x.aS F.sts.length x.cS, .slice x.aL F.lms.length x.cL, .slice x.aP F.prs.length x.cP, .slice x.aV F.vrs.length x.cV]) (by kernel_rfl) (by decide) rfl (by kernel_rfl) (by kernel_rfl) (by kernel_rfl) (fun _ _ _ h => h) (.inl ⟨rfl, fun V hV => ?_⟩) hS0 ?_
 ·have z0 : V.cell? ⟨w.heap.size, 0, none⟩ = some (.slice x.aS F.sts.length x.cS) := c_e hV.1 rfl
  have z1 : V.cell? ⟨w.heap.size, 1, none⟩ = some (.slice x.aL F.lms.length x.cL) := c_e hV.1 rfl
  have z2 : V.cell? ⟨w.heap.size, 2, none⟩ = some (.slice x.aP F.prs.length x.cP) := c_e hV.1 rfl
  have z3 : V.cell? ⟨w.heap.size, 3, none⟩ = some (.slice x.aV F.vrs.length x.cV) := c_e hV.1 rfl
  simp [go_sem, execOp, z0, z1, z2, z3]
 try simp only [Act.put]
 refine wpAnyF_take (i := 6) (v := .agg #[.slice x.aS F.sts.length x.cS, .slice x.aL F.lms.length x.cL, .slice x.aP F.prs.length x.cP, .slice x.aV F.vrs.length x.cV]) (by kernel_rfl) (by decide) rfl (by kernel_rfl) (by kernel_rfl) (by kernel_rfl) (fun _ _ _ h => h) (.inl ⟨rfl, fun V hV => ?_⟩) hS0 ?_
 ·have z0 : V.cell? ⟨w.heap.size, 0, none⟩ = some (.slice x.aS F.sts.length x.cS) := c_e hV.1 rfl
  have z1 : V.cell? ⟨w.heap.size, 1, none⟩ = some (.slice x.aL F.lms.length x.cL) := c_e hV.1 rfl
  have z2 : V.cell? ⟨w.heap.size, 2, none⟩ = some (.slice x.aP F.prs.length x.cP) := c_e hV.1 rfl
  have z3 : V.cell? ⟨w.heap.size, 3, none⟩ = some (.slice x.aV F.vrs.length x.cV) := c_e hV.1 rfl
  simp [go_sem, execOp, z0, z1, z2, z3]
 try simp only [Act.put]
 refine wpAnyF_take (i := 7) (v := .slice a2 ps.length cap2) (by kernel_rfl) (by decide) rfl (by kernel_rfl) (by kernel_rfl) (by kernel_rfl) (fun _ _ _ h => h) (.inl ⟨rfl, fun V hV => ?_⟩) hS0 ?_
 ·simp [go_sem, execOp]
 try simp only [Act.put]
 refine wpAnyF_step 3 rfl (by kernel_rfl) (fun K hK => ?_)
 go_simp
 go_at_call 106
 refine (HPT.out _ B2.out.drew).mono ?_
 rintro e w3 ⟨rfl, hb3⟩
 have B3 := hidE (B2.out.drew.trans (hb3.mono B2.out.drew.size))
 have X3 := hidE (blk_below hb3 (by simpa using l2) X2.out)
 have S3 := hidE (blk_below hb3 (by simpa using lt_of_block S2.out) S2.out)
 clear hb3
 go_wp2_with fail
 refine hK.out _ _ (.inr ⟨X3.out, S3.out⟩) ?_
 clear hK K
 try simp only [Act.put, s_a, s_b, s_c]
 refine wpAnyF_step 4 rfl (by kernel_rfl) (fun K hK => ?_)
 go_simp
 refine hK.out _ _ (.inr ⟨X3.out, S3.out⟩) ?_
 clear hK K
 try simp only [Act.put, s_a, s_b, s_c]
 refine wpAnyF_step 5 rfl (by kernel_rfl) (fun K hK => ?_)
 go_simp
 go_at_call 161
 refine (HRT.out _).mono ?_
 rintro e w4 ⟨rfl, rfl⟩
 go_wp2_with fail
 refine hK.out _ _ (.inr ⟨X3.out, S3.out⟩) ?_
 clear hK K
 try simp only [Act.put, s_a, s_b, s_c]
 refine wpAnyF_step 8 rfl (by kernel_rfl) (fun K hK => ?_)
 go_simp
 go_at_call 104
 refine (HFI.out _ B3.out).mono ?_
 rintro e w5 ⟨rfl, hb5⟩
 have B5 := hidE (B3.out.trans (hb5.mono B3.out.size))
 have X5 := hidE (blk_below hb5 (lt_of_block X3.out) X3.out)
 have S5 := hidE (blk_below hb5 (lt_of_block S3.out) S3.out)
 clear hb5
 go_wp2_with fail
 refine hK.out _ _ (.inr ⟨X5.out, S5.out⟩) ?_
 clear hK K
 try simp only [Act.put, s_a, s_b, s_c]
 refine wpAnyF_step 9 rfl (by kernel_rfl) (fun K hK => ?_)
 go_simp
 have hfs := first_any (w5.alloc (.cells #[.int .i64 r1, .int .i64 c3] 28)) (some ⟨w5.heap.size, 0, none⟩) 2 [r1, c3] (by simp) (two_ints w5 r1 c3 28)
 rw [HQ.out] at hfs
 have HFS := hidE hfs
 have B6 := hidE (B5.out.alloc B5.out.size (.cells #[.int .i64 r1, .int .i64 c3] 28))
 have X6 := hidE ((Below.heap_alloc w5 (.cells #[.int .i64 r1, .int .i64 c3] 28) _ (lt_of_block X5.out)).trans X5.out)
 have S6 := hidE ((Below.heap_alloc w5 (.cells #[.int .i64 r1, .int .i64 c3] 28) _ (lt_of_block S5.out)).trans S5.out)
 clear hfs
 refine hK.out _ _ (.inr ⟨X6.out, S6.out⟩) ?_
 clear hK K
 try simp only [Act.put, s_a, s_b, s_c]
 refine wpAnyF_step 10 rfl (by kernel_rfl) (fun K hK => ?_)
 go_simp
 go_at_call 132
 refine HFS.out.mono ?_
 rintro e w7 ⟨rfl, rfl⟩
 go_wp2_with fail
 refine hK.out _ _ (.inr ⟨X6.out, S6.out⟩) ?_
 clear hK K
 try simp only [Act.put, s_a, s_b, s_c]
 refine wpAnyF_step 11 rfl (by kernel_rfl) (fun K hK => ?_)
 go_simp
 refine hK.out _ _ (.inl rfl) ?_
 clear hK K
 refine wpAnyF_done (by kernel_rfl) ?_ _
 go_wp2_with fail
 go_ret
 exact ⟨rfl, B6.out⟩
theorem fit0 {F : Fld} {N : Int} {bs : List Bd} {ps : List Int} (h : fitE F N bs ps = 0) : F.check = 0 ∧ checkP N bs = 0 ∧ N = F.points ∧ fieldedE F ps = 0 := by
 unfold fitE at h
 split at h
 ·rename_i h1; exact absurd h h1
 ·rename_i h1
  split at h
  ·rename_i h2; exact absurd h h2
  ·rename_i h2
   split at h
   ·rename_i h3; exact ⟨Classical.not_not.1 h1, Classical.not_not.1 h2, h3, h⟩
   ·cases h
structure SJ (w : World) (x : FV) (F : Fld) (N : Int) (a : Option Addr) (cap : Nat) (bs : List Bd) (W : World) : Prop where
 j : FJ w x F none [] W
 sb : W.heap[w.heap.size + 1]? = some (.cells #[.int .i64 N, .slice a bs.length cap] 24 (0,0))
 bd : BoundsAt W a bs
theorem SJ.next {w W W' : World} {x : FV} {F : Fld} {N : Int} {a : Option Addr} {cap : Nat} {bs : List Bd} (h : SJ w x F N a cap bs W) (hb : Below W.heap.size W W') : SJ w x F N a cap bs W' :=
 ⟨h.j.next hb, blk_below hb (lt_of_block h.sb) h.sb, h.bd.below hb (Nat.le_refl _)⟩
theorem SJ.begin {w : World} {x : FV} {F : Fld} {N : Int} {a : Option Addr} {cap : Nat} {bs : List Bd} (h : FldAt w x F) (h2 : BoundsAt w a bs) :
 SJ w x F N a cap bs ((w.alloc (.cells (x.arr F) 46)).alloc (.cells #[.int .i64 N, .slice a bs.length cap] 24)) :=
 ⟨(FJ.begin h (.inl rfl)).alloc _, by
   have := heap_alloc_new (w.alloc (.cells (x.arr F) 46)) (.cells #[.int .i64 N, .slice a bs.length cap] 24)
   simpa using this, (h2.alloc _).alloc _⟩
theorem SJ.alloc {w W : World} {x : FV} {F : Fld} {N : Int} {a : Option Addr} {cap : Nat} {bs : List Bd} (h : SJ w x F N a cap bs W) (o : Obj) : SJ w x F N a cap bs (W.alloc o) := h.next ((Below.refl _ _).alloc (Nat.le_refl _) _)
theorem SJ.drew {w W : World} {x : FV} {F : Fld} {N : Int} {a : Option Addr} {cap : Nat} {bs : List Bd} (h : SJ w x F N a cap bs W) : SJ w x F N a cap bs W.drew := h.next (Below.refl _ W).drew
theorem SJ.c {w W : World} {x : FV} {F : Fld} {N : Int} {a : Option Addr} {cap : Nat} {bs : List Bd} (h : SJ w x F N a cap bs W) : W.cell? ⟨w.heap.size + 1, 0, none⟩ = some (.int .i64 N) ∧ W.cell? ⟨w.heap.size + 1, 1, none⟩ = some (.slice a bs.length cap) := ⟨ce h.sb rfl, ce h.sb rfl⟩
theorem EndsPost.val {err : Int} {S R : Option BestR} {base : Nat} {e : Ending} {w' : World} (h : EndsPost err S R base e w') : ∃ (c : Array Value) (er : Int), e = .returned (.tuple #[.agg c, .int .i64 er]) ∧ c.size = 6 ∧ c.all (·.oneCell') = true := by
 rcases h with ⟨_, e⟩ | ⟨_, _, e⟩ | ⟨_, s, r, gy, gF, hy, hF, _, _, _, _, _, _, e, _⟩
 ·exact ⟨_, _, e, rfl, by simp [zExt, Value.oneCell']⟩
 ·exact ⟨_, _, e, rfl, by simp [zExt, Value.oneCell']⟩
 ·exact ⟨_, _, e, rfl, by simp [rowVal, Value.oneCell']⟩
theorem EndsPost.set {err : Int} {S R : Option BestR} {base b0 g : Nat} {e : Ending} {w' : World} (h : EndsPost err S R base e w') (hb : b0 ≤ base) (hg : w'.heap[g]? = some (.cells zExt 76 (0,0))) (c : Array Value) : EndsPost err S R b0 e (w'.setRow g c) := by
 rcases h with q | q | ⟨q0, s, r, gy, gF, hy, hF, q1, q2, q3, q4, q5, q6, q7, b1, b2, b3, b4, _⟩
 ·exact .inl q
 ·exact .inr (.inl q)
 ·exact .inr (.inr ⟨q0, s, r, gy, gF, hy, hF, q1, q2, by omega, by omega, by omega, by omega, q7, (setRow_other _ _ _ _ (blk_ne b1 hg (by decide))).trans b1, (setRow_other _ _ _ _ (blk_ne b2 hg (by decide))).trans b2, (setRow_other _ _ _ _ (blk_ne b3 hg (by decide))).trans b3, (setRow_other _ _ _ _ (blk_ne b4 hg (by decide))).trans b4, trivial⟩)
def BoundsPost (fit : Int) (err : Int) (S R : Option BestR) (base : Nat) (e : Ending) (w' : World) : Prop :=
 (fit ≠ 0 ∧ e = .returned (.tuple #[.agg zExt, .int .i64 fit])) ∨ (fit = 0 ∧ EndsPost err S R base e w')
set_option maxRecDepth 100000 in
set_option maxHeartbeats 8000000 in
theorem bounds_any (w : World) (x : FV) (F : Fld) (N : Int) (a : Option Addr) (cap : Nat) (bs : List Bd) (i : Int) (f : Nat) (R : Option BestR) (g : Nat) (S : Option BestR) (hF : FldAt w x F) (hN : i64ok N) (hl : bs.length ≤ 9223372036854775807) (h : BoundsAt w a bs)
 (hrun : fitE F N bs [i] = 0 → consP N bs = 0 → BestRun N.toNat bs (weightsOf F (F.par i)) f R ∧ BestRun N.toNat bs ((weightsOf F (F.par i)).map (-·)) g S) :
 Calls Tryz.prog 57 #[x.val F, .agg #[.int .i64 N, .slice a bs.length cap], .int .i64 i] w fun e w' => BoundsPost (fitE F N bs [i]) (consP N bs) S R w.heap.size e w' ∧ Below w.heap.size w w' := by
 obtain ⟨w0, hw0⟩ : ∃ W, W = ((w.alloc (.cells (x.arr F) 46)).alloc (.cells #[.int .i64 N, .slice a bs.length cap] 24)).alloc (.cells zExt 76) := ⟨_, rfl⟩
 have J0 := hidE (show SJ w x F N a cap bs w0 by rw [hw0]; exact (SJ.begin hF h).alloc _)
 have Q0 := hidE (show Kb [(w.heap.size + 2, .cells zExt 76)] w0 by
  have := (Kb.alloc (o := .cells zExt 76) (L := []) (W := (w.alloc (.cells (x.arr F) 46)).alloc (.cells #[.int .i64 N, .slice a bs.length cap] 24)) trivial)
  rw [hw0]; simpa using this)
 have HFT := hidE (fun (W : World) (J : SJ w x F N a cap bs W) => fitting_any (W.alloc (.cells #[.int .i64 i] 3)) x F N a cap bs (some ⟨W.heap.size, 0, none⟩) 1 [i] (J.j.fld.alloc _) hN hl (J.bd.alloc _) (by simp) (ints_single W i))
 obtain ⟨f0, f1, f2, f3⟩ := J0.out.j.c
 obtain ⟨s0, s1⟩ := J0.out.c
 unfold zExt at hw0
 by_cases hz : fitE F N bs [i] = 0
 rotate_left
 ·obtain ⟨c, hc⟩ : ∃ c, fitE F N bs [i] = c := ⟨_, rfl⟩
  rw [hc] at hz HFT ⊢
  have hzb : (c != 0) = true := by simpa using hz
  have HZ0 := hidE hz
  unfold FV.val FV.arr at *
  clear hz hc hF h hN
  go_enter Tryz.func57, Tryz.ntmps57
  go_upto_region 1 with fail
  rw [← hw0]
  clear hw0
  go_wp2_with fail
  refine (HFT.out _ J0.out).mono ?_
  rintro e w1 ⟨rfl, hbx⟩
  have hb : Below w0.heap.size w0 w1 := ((Below.refl _ w0).alloc (Nat.le_refl _) _).trans (hbx.mono (by simp))
  have J1 := hidE (J0.out.next hb)
  have HZ := hidE (Q0.out.next hb).1
  clear hb hbx f0 f1 f2 f3 s0 s1 J0 Q0 HFT
  have z0 := ce (i := 0) HZ.out rfl
  have zf0 : w1.frozen? ⟨w.heap.size + 2, 0, none⟩ = false := frozen_of_row _ _ _ _ _ HZ.out
  have z1 := ce (i := 1) HZ.out rfl
  have zf1 : w1.frozen? ⟨w.heap.size + 2, 1, none⟩ = false := frozen_of_row _ _ _ _ _ HZ.out
  have z2 := ce (i := 2) HZ.out rfl
  have zf2 : w1.frozen? ⟨w.heap.size + 2, 2, none⟩ = false := frozen_of_row _ _ _ _ _ HZ.out
  have z3 := ce (i := 3) HZ.out rfl
  have zf3 : w1.frozen? ⟨w.heap.size + 2, 3, none⟩ = false := frozen_of_row _ _ _ _ _ HZ.out
  have z4 := ce (i := 4) HZ.out rfl
  have zf4 : w1.frozen? ⟨w.heap.size + 2, 4, none⟩ = false := frozen_of_row _ _ _ _ _ HZ.out
  have z5 := ce (i := 5) HZ.out rfl
  have zf5 : w1.frozen? ⟨w.heap.size + 2, 5, none⟩ = false := frozen_of_row _ _ _ _ _ HZ.out
  go_wp2_with fail
  try simp only [Exit.noGoto]
  refine bodyPost_ret (v := .tuple #[.agg zExt, .int .i64 c]) (results_cell_row2 Tryz.results57 _ _ (w.heap.size + 2) 76 zExt (0,0) _ rfl (ext_zero HZ.out) Tryz.underlying76 rfl (by kernel_rfl)) rfl ⟨.inl ⟨HZ0.out, rfl⟩, (((((J1.out.j.b.setCell (by dsimp only; omega) _).setCell (by dsimp only; omega) _).setCell (by dsimp only; omega) _).setCell (by dsimp only; omega) _).setCell (by dsimp only; omega) _).setCell (by dsimp only; omega) _⟩
 ·rw [hz] at HFT ⊢
  obtain ⟨hc, hck, hNp, hfd⟩ := fit0 hz
  have hrn := hrun hz
  obtain ⟨_, n, rfl, hn, hpar⟩ := fielded_one hfd
  have hin := check0_inside hc (List.getElem_mem hn)
  have hwb := weightsOf_bd hc hin
  have HWT := hidE (fun (W : World) (J : SJ w x F N a cap bs W) => weights_any W x F n hc hn J.j.fld)
  obtain ⟨n0, hNn, m2, m3, m4, m5⟩ := allOk_of hck
  rw [hpar] at hrn
  have hwl : (weightsOf F F.prs[n]).length = n0 := by rw [weightsOf_len]; omega
  have hpt : F.points.toNat = n0 := by omega
  subst hNn
  rw [hpt] at HWT
  have HEN := hidE (fun (W : World) (gw : Nat) (J : SJ w x F n0 a cap bs W) (hg : W.heap[gw]? = some (.cells (rowA (weightsOf F F.prs[n])) 3 (0,0))) => ends_any W n0 a cap bs (some ⟨gw, 0, none⟩) n0 _ f R g S m2 m3 m4 (fun b hb => (m5 b hb).1) J.bd (ints_of_row hg) hwl (fun v hv => by
   obtain ⟨j, hj, rfl⟩ := List.getElem_of_mem hv
   have := hwb j
   rw [getD_get _ 0 hj] at this
   omega) (fun z => (hrn z).1) (fun z => (hrn z).2))
  obtain ⟨L, hL⟩ : ∃ L, weightsOf F F.prs[n] = L := ⟨_, rfl⟩
  rw [hL] at HWT HEN
  obtain ⟨E, hE⟩ : ∃ E, consP (n0 : Int) bs = E := ⟨_, rfl⟩
  rw [hE] at HEN ⊢
  unfold FV.val FV.arr at *
  clear hz hc hck hrun hrn hfd hpar hin hwb hwl hL hE m5 hF h hN hNp hpt
  go_enter Tryz.func57, Tryz.ntmps57
  go_upto_region 1 with fail
  rw [← hw0]
  clear hw0
  go_wp2_with fail
  refine (HFT.out _ J0.out).mono ?_
  rintro e w1 ⟨rfl, hbx⟩
  have hb : Below w0.heap.size w0 w1 := ((Below.refl _ w0).alloc (Nat.le_refl _) _).trans (hbx.mono (by simp))
  have J1 := hidE (J0.out.next hb)
  have Q1 := hidE (Q0.out.next hb)
  clear hb hbx f0 f1 f2 f3 s0 s1 J0 Q0 HFT
  go_upto_region 4 with fail
  have hS0 : Kb [(w.heap.size, .cells #[.slice x.aS F.sts.length x.cS, .slice x.aL F.lms.length x.cL, .slice x.aP F.prs.length x.cP, .slice x.aV F.vrs.length x.cV] 46), (w.heap.size + 1, .cells #[.int .i64 (n0 : Int), .slice a bs.length cap] 24)] w1.drew := ⟨J1.out.j.blk, J1.out.sb, trivial⟩
  have JD := hidE J1.out.drew
  have QD := hidE Q1.out.drew
  clear J1 Q1
  refine wp_region_F (S := Kb [(w.heap.size, .cells #[.slice x.aS F.sts.length x.cS, .slice x.aL F.lms.length x.cL, .slice x.aP F.prs.length x.cP, .slice x.aV F.vrs.length x.cV] 46), (w.heap.size + 1, .cells #[.int .i64 (n0 : Int), .slice a bs.length cap] 24)]) (last := 100) (by kernel_rfl) ?_
  refine tF 0 18 (.agg #[.int .i64 (n0 : Int), .slice a bs.length cap]) rfl (by kernel_rfl) rfl (fun _ _ _ h => h) (fun V hV => ?_) hS0 ?_
  ·have z0 := ce (i := 0) hV.2.1 rfl
   have z1 := ce (i := 1) hV.2.1 rfl
   simp [go_sem, execOp, z0, z1]
  try simp only [sA, sB, sC]
  refine tF 1 19 (.agg #[.slice x.aS F.sts.length x.cS, .slice x.aL F.lms.length x.cL, .slice x.aP F.prs.length x.cP, .slice x.aV F.vrs.length x.cV]) rfl (by kernel_rfl) rfl (fun _ _ _ h => h) (fun V hV => ?_) hS0 ?_
  ·obtain ⟨z0, z1, z2, z3⟩ := fld4 hV.1
   simp [go_sem, execOp, z0, z1, z2, z3]
  try simp only [sA, sB, sC]
  refine tF 2 20 (.int .i64 (n : Int)) rfl (by kernel_rfl) rfl (fun _ _ _ h => h) (fun V hV => ?_) hS0 ?_
  ·simp [go_sem, execOp]
  try simp only [sA, sB, sC]
  refine wpAnyF_step 3 rfl (by kernel_rfl) (fun K hK => ?_)
  go_simp
  go_at_call 108
  refine (HWT.out _ JD.out).mono ?_
  rintro e w2 ⟨gw, rfl, hg, hgb, hb⟩
  have J2 := hidE (JD.out.next hb)
  have Q2 := hidE (QD.out.next hb)
  have hS2 := hS0.next hb
  have HG := hidE hg
  clear hb hg hgb hS0 JD QD
  go_wp2_with fail
  refine hK.out _ _ (.inr hS2) ?_
  clear hK K
  try simp only [Act.put, sA, sB, sC]
  refine tF 4 22 (.agg #[.int .i64 (n0 : Int), .slice a bs.length cap, .slice (some ⟨gw, 0, none⟩) n0 n0]) rfl (by kernel_rfl) rfl (fun _ _ _ h => h) (fun V hV => ?_) hS2 ?_
  ·simp [go_sem, execOp]
  try simp only [sA, sB, sC]
  refine wpAnyF_step 5 rfl (by kernel_rfl) (fun K hK => ?_)
  go_simp
  go_at_call 123
  refine (HEN.out _ gw J2.out HG.out).mono ?_
  rintro e w3 ⟨hp, hb⟩
  obtain ⟨c, er, rfl, hcs, hone⟩ := hp.val
  have J3 := hidE (J2.out.next hb)
  have Q3 := hidE (Q2.out.next hb)
  have hS3 := hS2.next hb
  have HP := hidE (hp.set (b0 := w.heap.size) J2.out.j.b.size Q3.out.1 c)
  have HCS := hidE hcs
  have HON := hidE hone
  clear hb hp hcs hone hS2 HEN HWT J2 Q2
  go_wp2_with fail
  refine hK.out _ _ (.inr hS3) ?_
  clear hK K
  try simp only [Act.put, sA, sB, sC]
  refine tF 6 24 (.agg c) rfl (by kernel_rfl) rfl (fun _ _ _ h => h) (fun V hV => ?_) hS3 ?_
  ·simp [go_sem, execOp]
  try simp only [sA, sB, sC]
  refine tF 7 25 (.int .i64 er) rfl (by kernel_rfl) rfl (fun _ _ _ h => h) (fun V hV => ?_) hS3 ?_
  ·simp [go_sem, execOp]
  try simp only [sA, sB, sC]
  refine wpAnyF_step 8 rfl (by kernel_rfl) (fun K hK => ?_)
  refine Eq.mpr (if_pos (by kernel_rfl)) ?_
  refine wp_store_row 76 _ _ rfl (w.heap.size + 2) c rfl rfl 76 _ Q3.out.1 (by rw [HCS.out]; kernel_rfl) (by rw [HCS.out]; rfl) HON.out ?_
  have hS4 : Kb [(w.heap.size, .cells #[.slice x.aS F.sts.length x.cS, .slice x.aL F.lms.length x.cL, .slice x.aP F.prs.length x.cP, .slice x.aV F.vrs.length x.cV] 46), (w.heap.size + 1, .cells #[.int .i64 (n0 : Int), .slice a bs.length cap] 24)] (w3.setRow (w.heap.size + 2) c) := ⟨(setRow_other _ _ _ _ (by omega)).trans hS3.1, (setRow_other _ _ _ _ (by omega)).trans hS3.2.1, trivial⟩
  refine hK.out _ _ (.inr hS4) ?_
  clear hK K
  try simp only [Act.put, List.setIfInBounds_toArray]
  refine wpAnyF_step 9 rfl (by kernel_rfl) (fun K hK => ?_)
  go_simp
  refine hK.out _ _ (.inr hS4) ?_
  clear hK K
  try simp only [Act.put, sA, sB, sC]
  refine wpAnyF_done (by kernel_rfl) ?_ _
  go_wp2_with fail
  try simp only [Exit.noGoto]
  refine bodyPost_ret (v := .tuple #[.agg c, .int .i64 er]) (results_cell_row2 Tryz.results57 _ _ (w.heap.size + 2) 76 _ (0,0) _ rfl (setRow_heap _ _ _ _ _ _ Q3.out.1) Tryz.underlying76 rfl (by rw [HCS.out]; kernel_rfl)) rfl ⟨.inr ⟨rfl, HP.out⟩, below_setRow J3.out.j.b (by omega) _⟩
def surelyP (S R : Option BestR) (least : Int) : Int :=
 match S with
 | some s => if least ≤ -s.n then 1 else match R with
   | some r => if r.n < least then 2 else 0
   | none => 0
 | none => match R with
   | some r => if r.n < least then 2 else 0
   | none => 0
end Go.Proofs.YthjmkmjojlfejaaGreat
namespace Go.Proofs.YthjmkmjojlfejaaGreat
theorem cons_noNeg {n : Nat} {bs : List Bd} (hc : checkP n bs = 0) (h : consP n bs = 0) : NoNeg bs := by
 obtain ⟨m, e, m1, m2, m3, m4⟩ := allOk_of hc
 obtain rfl : n = m := by omega
 unfold consP consistentE at h
 rw [if_pos hc] at h
 simp only [ne_eq, not_true_eq_false, if_false] at h
 cases ho : (openedP (n : Nat) bs).isSome with
 | true => exact (openedP_iff m2 fun b hb => (m4 b hb).1).1 ho
 | false => rw [ho] at h; simp at h
theorem Ends.between2 {n : Nat} {bs : List Bd} {w : List Int} {f g : Nat} {R S : Option BestR} (m1 : 1 ≤ n) (m4 : AllValid n bs) (m5 : w.length = n) (E : Ends n bs w f R g S) {y : List Int} (k : Keeps n bs y) :
 (∀ r, R = some r → formP w y ≤ r.n) ∧ (∀ r, S = some r → -r.n ≤ formP w y) := by
 have hy : ∀ b ∈ bs, getI y b.dst - getI y b.src ≤ b.most := fun b hb => by have := k.pot b hb; omega
 constructor
 ·intro r e
  obtain ⟨b, e2⟩ := E.ho r e
  have := dual m1 m4 m5 k.zero hy b.carry
  rw [b.form m5] at this
  omega
 ·intro r e
  obtain ⟨b, e2⟩ := E.lk r e
  have := dual m1 m4 (by rw [List.length_map]; exact m5) k.zero hy b.carry
  rw [b.form (by rw [List.length_map]; exact m5), form_neg, ← e2] at this
  omega
def RunsOk (F : Fld) (N : Int) (bs : List Bd) (i : Int) (f : Nat) (R : Option BestR) (g : Nat) (S : Option BestR) : Prop :=
 fitE F N bs [i] = 0 → consP N bs = 0 → Ends N.toNat bs (weightsOf F (F.par i)) f R g S
theorem fit_parts {F : Fld} {N : Int} {bs : List Bd} {i : Int} (h : fitE F N bs [i] = 0) : ∃ n : Nat, N = n ∧ 1 ≤ n ∧ n ≤ 128 ∧ bs.length ≤ 2000 ∧ AllValid n bs ∧ checkP n bs = 0 ∧ (weightsOf F (F.par i)).length = n ∧ (∀ v, -1000000 ≤ (weightsOf F (F.par i)).getD v 0 ∧ (weightsOf F (F.par i)).getD v 0 ≤ 1000000) ∧ fieldedE F [i] = 0 ∧ F.check = 0 ∧ F.points = n := by
 obtain ⟨hc, hck, hNp, hfd⟩ := fit0 h
 obtain ⟨_, m, rfl, hm, hpar⟩ := fielded_one hfd
 have hin := check0_inside hc (List.getElem_mem hm)
 have hwb := weightsOf_bd hc hin
 obtain ⟨n, hn, m1, m2, m3, m4⟩ := allOk_of hck
 subst hn
 rw [hpar]
 exact ⟨n, rfl, m1, m2, m3, fun b hb => (m4 b hb).1, hck, by rw [weightsOf_len]; omega, fun v => by have := hwb v; omega, hfd, hc, hNp.symm⟩
theorem runs_ex (F : Fld) (N : Int) (bs : List Bd) (i : Int) : ∃ f R g S, RunsOk F N bs i f R g S := by
 by_cases hf : fitE F N bs [i] = 0
 ·by_cases hc : consP N bs = 0
  ·obtain ⟨n, rfl, m1, m2, m3, m4, m5, m6, m7, _⟩ := fit_parts hf
   have hn := cons_noNeg m5 hc
   obtain ⟨f, R, a, b⟩ := best_total m1 m2 m4 hn m7 m6
   obtain ⟨g, S, c, d⟩ := best_total (w := (weightsOf F (F.par i)).map (-·)) m1 m2 m4 hn (fun v => by rw [map_neg_getD]; have := m7 v; omega) (by rw [List.length_map]; exact m6)
   exact ⟨f, R, g, S, fun _ _ => ⟨a, b, c, d⟩⟩
  ·exact ⟨0, none, 0, none, fun _ h => absurd h hc⟩
 ·exact ⟨0, none, 0, none, fun h => absurd h hf⟩
theorem RunsOk.run {F : Fld} {N : Int} {bs : List Bd} {i : Int} {f g : Nat} {R S : Option BestR} (h : RunsOk F N bs i f R g S) (hf : fitE F N bs [i] = 0) (hc : consP N bs = 0) :
 BestRun N.toNat bs (weightsOf F (F.par i)) f R ∧ BestRun N.toNat bs ((weightsOf F (F.par i)).map (-·)) g S := ⟨(h hf hc).hi, (h hf hc).lo⟩
theorem surely_says {F : Fld} {N : Int} {bs : List Bd} {i least : Int} {f g : Nat} {R S : Option BestR} {y : List Int} (h : RunsOk F N bs i f R g S) (hf : fitE F N bs [i] = 0) (hc : consP N bs = 0) (hk : (keptE N bs y).2.1 = true) :
 (surelyP S R least = 1 → least ≤ (area2E F i y).1) ∧ (surelyP S R least = 2 → (area2E F i y).1 < least) ∧ (∀ s, S = some s → -s.n ≤ (area2E F i y).1) ∧ (∀ r, R = some r → (area2E F i y).1 ≤ r.n) ∧ (area2E F i y).2 = 0 := by
 have E := h hf hc
 obtain ⟨n, rfl, m1, m2, m3, m4, m5, m6, m7, m8, m9, m10⟩ := fit_parts hf
 rw [Int.toNat_natCast] at E
 have k := (keptE_iff m5).1 hk
 obtain ⟨b1, b2⟩ := E.between2 m1 m4 m6 k
 have hv : valuesB F.points y = true := by rw [m10]; exact valuesB_iff.2 ⟨k.len, k.zero, k.bd⟩
 have ha : area2E F i y = (formP (weightsOf F (F.par i)) y, 0) := by
  unfold area2E
  rw [if_neg (by omega), if_neg (by rw [hv]; simp)]
 rw [ha]
 refine ⟨fun e => ?_, fun e => ?_, b2, b1, rfl⟩
 ·cases S with
  | none =>
    exfalso
    cases R with
    | none => exact absurd (show (0 : Int) = 1 from e) (by decide)
    | some r =>
      have e2 : (if r.n < least then (2 : Int) else 0) = 1 := e
      split at e2 <;> omega
  | some s =>
    have e2 : (if least ≤ -s.n then (1 : Int) else surelyP none R least) = 1 := e
    have := b2 s rfl
    split at e2
    ·show least ≤ formP _ _; omega
    ·exfalso
     cases R with
     | none => exact absurd (show (0 : Int) = 1 from e2) (by decide)
     | some r =>
       have e3 : (if r.n < least then (2 : Int) else 0) = 1 := e2
       split at e3 <;> omega
 ·have key : ∀ r, R = some r → r.n < least → formP (weightsOf F (F.par i)) y < least := fun r hr hl => by have := b1 r hr; omega
  have fin : surelyP none R least = 2 → formP (weightsOf F (F.par i)) y < least := fun q => by
   cases R with
   | none => exact absurd (show (0 : Int) = 2 from q) (by decide)
   | some r =>
     have q2 : (if r.n < least then (2 : Int) else 0) = 2 := q
     split at q2
     ·exact key r rfl (by assumption)
     ·omega
  cases S with
  | none => exact fin e
  | some s =>
    have e2 : (if least ≤ -s.n then (1 : Int) else surelyP none R least) = 2 := e
    split at e2
    ·omega
    ·exact fin e2
end Go.Proofs.YthjmkmjojlfejaaGreat
namespace Go.Proofs.YthjmkmjojlfejaaGreat
open Go Go.RowKit Go.Shelf
theorem getD_bd {l : List Int} {c : Int} (hc : 0 ≤ c) (h : ∀ v ∈ l, -c ≤ v ∧ v ≤ c) (j : Nat) : -c ≤ l.getD j 0 ∧ l.getD j 0 ≤ c := by
 by_cases hj : j < l.length
 ·rw [getD_get l 0 hj]; exact h _ (List.getElem_mem hj)
 ·rw [List.getD_eq_getElem?_getD, List.getElem?_eq_none (by omega)]; simp only [Option.getD_none]; omega
theorem formP_bd {l y : List Int} (hl : l.length ≤ 121) (h1 : ∀ j : Nat, -400000 ≤ l.getD j 0 ∧ l.getD j 0 ≤ 400000) (h2 : ∀ v ∈ y, -400000000 ≤ v ∧ v ≤ 400000000) : -19360000000000000 ≤ formP l y ∧ formP l y ≤ 19360000000000000 := by
 have h3 : ∀ j : Nat, -160000000000000 ≤ l.getD j 0 * y.getD j 0 ∧ l.getD j 0 * y.getD j 0 ≤ 160000000000000 := fun j => mul_bd (A := 400000) (B := 400000000) (h1 j).1 (h1 j).2 (getD_bd (by decide) h2 j).1 (getD_bd (by decide) h2 j).2
 have h4 := sumN_bd (c := 160000000000000) (n := l.length) (fun j _ => h3 j)
 unfold formP
 omega
theorem info53 : (Tryz.prog.info? 53).map (fun i => (i.zero, i.size, i.bytes)) = some (some (.agg #[.string ⟨#[]⟩, .int .i64 0, .int .i64 0, .int .i64 0]), 4, 40) := by kernel_rfl
def pieceP (p : Par) (j : Nat) : Par := ⟨p.name, p.south, p.wst + j, p.wst + j + 1⟩
def piecesTo (p : Par) (k : Nat) : List Par := (List.range k).map (pieceP p)
def piecesP (p : Par) : List Par := piecesTo p (p.est - p.wst).toNat
def piecesE (F : Fld) (i : Int) : List Par × Int := if fieldedE F [i] ≠ 0 then ([], fieldedE F [i]) else (piecesP (F.par i), 0)
theorem piecesTo_len (p : Par) (k : Nat) : (piecesTo p k).length = k := by simp [piecesTo]
theorem piecesTo_succ (p : Par) (k : Nat) : (piecesTo p (k + 1)).flatMap Par.cells = (piecesTo p k).flatMap Par.cells ++ (pieceP p k).cells := by
 unfold piecesTo
 rw [List.range_succ, List.map_append, List.flatMap_append]
 simp
def PiecesPost (l : List Par) (err : Int) (base : Nat) (e : Ending) (w' : World) : Prop := ∃ v, e = .returned (.tuple #[v, .int .i64 err]) ∧ w'.ownsRow base 53 4 v l.length (l.flatMap Par.cells)
set_option maxRecDepth 100000 in
set_option maxHeartbeats 4000000 in
theorem piecesE_any (w : World) (x : FV) (F : Fld) (i : Int) (h : FldAt w x F) : Calls Tryz.prog 54 #[x.val F, .int .i64 i] w fun e w' => PiecesPost (piecesE F i).1 (piecesE F i).2 w.heap.size e w' ∧ Below w.heap.size w w' := by
 have B0 := hidE (show Below w.heap.size w (w.alloc (.cells (x.arr F) 46)) from (Below.refl _ _).alloc (Nat.le_refl _) _)
 have X0 := hidE (heap_alloc_new w (.cells (x.arr F) 46))
 have l0 : w.heap.size < (w.alloc (.cells (x.arr F) 46)).heap.size := by simp
 have HFI := hidE (fun (W : World) (A : Nat) (hA : A = W.heap.size) (hb : Below w.heap.size w W) => show Calls Tryz.prog 104 #[x.val F, .slice (some ⟨A, 0, none⟩) 1 1] (W.alloc (.cells #[.int .i64 i] 3)) _ by subst hA; exact fielded_any (W.alloc (.cells #[.int .i64 i] 3)) x F (some ⟨W.heap.size, 0, none⟩) 1 [i] (by simp) ((h.below hb).alloc _) (ints_single W i))
 obtain ⟨P1, hP1⟩ : ∃ z, (piecesE F i).1 = z := ⟨_, rfl⟩
 obtain ⟨P2, hP2⟩ : ∃ z, (piecesE F i).2 = z := ⟨_, rfl⟩
 rw [hP1, hP2]
 unfold piecesE at hP1 hP2
 by_cases hz : fieldedE F [i] = 0
 ·obtain ⟨hc, n, rfl, hn, hpar⟩ := fielded_one hz
  rw [if_neg (by omega)] at hP1 hP2
  rw [hz] at HFI
  rw [hpar] at hP1
  have hin := check0_inside hc (List.getElem_mem hn)
  obtain ⟨⟨ls1, ls2⟩, ⟨ll1, ll2⟩, lp⟩ := check0_len hc
  obtain ⟨bP, oP, haP, hbP, hcP⟩ := RecsAt.at h.pr hn
  obtain ⟨p, hp⟩ : ∃ p, F.prs[n] = p := ⟨_, rfl⟩
  rw [hp] at hin hcP hP1
  obtain ⟨m, hm⟩ : ∃ m : Nat, p.wst = m := ⟨p.wst.toNat, by obtain ⟨_, _, _, _, _⟩ := hin; omega⟩
  obtain ⟨E, hE⟩ : ∃ E : Nat, p.est = E := ⟨p.est.toNat, by obtain ⟨_, _, _, _, _⟩ := hin; omega⟩
  obtain ⟨K, hK⟩ : ∃ K : Nat, E = m + K := ⟨E - m, by obtain ⟨_, _, _, _, _⟩ := hin; omega⟩
  have hEb : E ≤ 100 := by obtain ⟨_, _, _, _, _⟩ := hin; omega
  have HPK : Hid (P1 = piecesTo p K) := hidE (by rw [← hP1]; show piecesTo p (p.est - p.wst).toNat = _; congr 1; omega)
  have HSU := hidE (fun k => show (piecesTo p (k + 1)).flatMap Par.cells = (piecesTo p k).flatMap Par.cells ++ [.string p.name, .int .i64 p.south, .int .i64 ((m + k : Nat) : Int), .int .i64 (((m + k : Nat) : Int) + 1)] by
   rw [piecesTo_succ]; unfold Par.cells pieceP; dsimp only; rw [hm]; simp)
  have HSL := hidE (piecesTo_len p)
  obtain ⟨PT, hPT⟩ : ∃ PT, piecesTo p = PT := ⟨_, rfl⟩
  have HP00 : Hid (PT 0 = []) := hidE (by rw [← hPT]; rfl)
  rw [hPT] at HPK HSU HSL
  obtain rfl : (0 : Int) = P2 := hP2
  obtain ⟨pn, ps, pw, pe⟩ := p
  dsimp only at hm hE HSU
  subst hm hE
  have HK := hidE hK
  have c0 := hcP 0 (by omega)
  have c1 := hcP 1 (by omega)
  have c2 := hcP 2 (by omega)
  have c3 := hcP 3 (by omega)
  simp only [Par.cells, List.getElem?_cons_zero, List.getElem?_cons_succ, Nat.add_zero] at c0 c1 c2 c3
  have C0 := hidE c0
  have C1 := hidE c1
  have C2 := hidE c2
  have C3 := hidE c3
  clear hz hpar hP1 h hc hp hin hcP hK hPT c0 c1 c2 c3
  have HAP := hidE haP
  unfold FV.val FV.arr at *
  rw [haP] at HFI X0 B0 l0 ⊢
  clear haP HAP
  go_enter Tryz.func54, Tryz.ntmps54
  go_wp2_with fail
  refine (HFI.out _ _ (by simp) B0.out).mono ?_
  rintro e w1 ⟨rfl, hb1⟩
  have a1 := B0.out.alloc B0.out.size (.cells #[.int .i64 (n : Int)] 3)
  have B1 := hidE (a1.trans (hb1.mono a1.size))
  have X1 := hidE (blk_below hb1 (Nat.lt_of_lt_of_le l0 (by simp)) ((Below.heap_alloc _ _ _ l0).trans X0.out))
  clear a1
  have l1 := lt_of_block X1.out
  have f0 : w1.cell? ⟨w.heap.size, 0, none⟩ = some (.slice x.aS F.sts.length x.cS) := c_e X1.out rfl
  have f1 : w1.cell? ⟨w.heap.size, 1, none⟩ = some (.slice x.aL F.lms.length x.cL) := c_e X1.out rfl
  have f2 : w1.cell? ⟨w.heap.size, 2, none⟩ = some (.slice (some ⟨bP, oP, none⟩) F.prs.length x.cP) := c_e X1.out rfl
  have f3 : w1.cell? ⟨w.heap.size, 3, none⟩ = some (.slice x.aV F.vrs.length x.cV) := c_e X1.out rfl
  have d0 := (B1.out.cell (p := ⟨bP, oP + n * 4, none⟩) hbP).trans C0.out
  have d1 := (B1.out.cell (p := ⟨bP, oP + n * 4 + 1, none⟩) hbP).trans C1.out
  have d2 := (B1.out.cell (p := ⟨bP, oP + n * 4 + 2, none⟩) hbP).trans C2.out
  have d3 := (B1.out.cell (p := ⟨bP, oP + n * 4 + 3, none⟩) hbP).trans C3.out
  clear hb1 C0 C1 C2 C3
  go_upto_region 5 with fail
  obtain ⟨w2, hw2⟩ : ∃ W, W = w1.alloc (.cells #[.string pn, .int .i64 ps, .int .i64 (m : Int), .int .i64 (E : Int)] 53) := ⟨_, rfl⟩
  rw [← hw2]
  have B2 := hidE (show Below w.heap.size w w2 by rw [hw2]; exact B1.out.alloc B1.out.size _)
  have G2 := hidE (show w2.heap[w1.heap.size]? = some (.cells #[.string pn, .int .i64 ps, .int .i64 (m : Int), .int .i64 (E : Int)] 53 (0,0)) by rw [hw2]; exact heap_alloc_new _ _)
  obtain ⟨g, hg⟩ : ∃ g, w1.heap.size = g := ⟨_, rfl⟩
  rw [hg] at G2 ⊢
  have lg := lt_of_block G2.out
  clear hw2 hg f0 f1 f2 f3 d0 d1 d2 d3 X1 l1
  have k2 : w2.cell? ⟨g, 2, none⟩ = some (.int .i64 (m : Int)) := c_e G2.out rfl
  go_wp2_with fail
  clear k2
  go_loopw [8, 9] (fun v i wr => ∃ k : Nat, k ≤ K ∧ i = .int .i64 ((m + k : Nat) : Int) ∧ Hid (wr.ownsRow w2.heap.size 53 4 v k ((PT k).flatMap Par.cells)) ∧ Hid (Below w2.heap.size w2 wr)) (fun _ i _ => E - (intOf i).toNat)
  case atStart => exact ⟨0, Nat.zero_le _, rfl, hidE (by rw [HP00.out]; exact World.ownsRow_nil _ _ _ _), hidE (Below.refl _ _)⟩
  case round =>
   obtain ⟨k, hk, rfl, HOWN, HB⟩ := hrel
   obtain ⟨wx, rfl⟩ : ∃ X : World, X = wr := ⟨wr, rfl⟩
   have k0 : wx.cell? ⟨g, 0, none⟩ = some (.string pn) := by rw [HB.out.cell (p := ⟨g, 0, none⟩) lg, cell_of_row _ _ _ _ _ _ G2.out]; rfl
   have k1 : wx.cell? ⟨g, 1, none⟩ = some (.int .i64 ps) := by rw [HB.out.cell (p := ⟨g, 1, none⟩) lg, cell_of_row _ _ _ _ _ _ G2.out]; rfl
   have k3 : wx.cell? ⟨g, 3, none⟩ = some (.int .i64 (E : Int)) := by rw [HB.out.cell (p := ⟨g, 3, none⟩) lg, cell_of_row _ _ _ _ _ _ G2.out]; rfl
   obtain ⟨u, hu⟩ : ∃ u : Nat, m + k = u := ⟨_, rfl⟩
   have hE := HK.out
   by_cases hlt : k < K
   ·have hd : decide ((u : Int) < (E : Int)) = true := by simp; omega
    have hd' : decide (u < E) = true := by simp; omega
    have huw : IntKind.i64.wrap ((u : Int) + 1) = (u : Int) + 1 := IntWalk.i64_in _ (by omega)
    have hsu := HSU.out k
    rw [hu] at hsu
    have own3 := HOWN.out.alloc (.cells #[.string pn, .int .i64 ps, .int .i64 (u : Int), .int .i64 ((u : Int) + 1)] 53)
    obtain ⟨v', wa, hrun, hown', hbl2, _⟩ := append_rec (w := wx.alloc (.cells #[.string pn, .int .i64 ps, .int .i64 (u : Int), .int .i64 ((u : Int) + 1)] 53)) (tS := 43) Tryz.underlying43 info53 rfl (by decide) (by decide) own3 (b := wx.heap.size) (news := [.string pn, .int .i64 ps, .int .i64 (u : Int), .int .i64 ((u : Int) + 1)]) rfl (heap_alloc_new _ _) (by intro t ht; simp at ht; rcases ht with rfl | rfl | rfl | rfl <;> rfl) (by omega) (by have := HB.out.size; simp; omega) 43
    have HRUN := hidE hrun
    have HOW := hidE (show wa.ownsRow w2.heap.size 53 4 v' (k + 1) ((PT (k + 1)).flatMap Par.cells) by rw [hsu]; exact hown')
    have HBL := hidE ((HB.out.alloc HB.out.size _).trans hbl2)
    have HU := hidE hu
    have HLT := hidE hlt
    rw [hu]
    clear hrun hown' hbl2 own3 hsu hu hE
    go_wp2_with (at_builtin; refine wpList_op_append rfl (s := .tmp 30) (x := .tmp 39) (t := 43) rfl rfl rfl HRUN.out ?_)
    go_roundw
    case rel => exact ⟨k + 1, HLT.out, by rw [← HU.out]; go_num, HOW, HBL⟩
    case measure => have := HLT.out; have := HU.out; have := HK.out; simp [intOf]; omega
   ·obtain rfl : k = K := by omega
    have hd : decide ((u : Int) < (E : Int)) = false := by simp; omega
    have hd' : decide (u < E) = false := by simp; omega
    have ho := HOWN.out
    rw [← HPK.out] at ho
    have hkl : k = P1.length := by rw [HPK.out, HSL.out]
    have HO := hidE ho
    have HKL := hidE hkl
    have HBF := hidE (B2.out.trans (HB.out.mono B2.out.size))
    rw [hu]
    clear ho hkl hE hu HOWN
    go_wp2_with fail
    go_ret2
    have ho := HO.out
    rw [HKL.out] at ho
    exact ⟨⟨_, rfl, ownsRow_base ho B2.out.size⟩, HBF.out⟩
 ·rw [if_pos hz] at hP1 hP2
  obtain rfl : [] = P1 := hP1
  have hzb : (P2 != 0) = true := by rw [← hP2]; simpa using hz
  rw [show fieldedE F [i] = P2 from hP2] at HFI
  clear hz hP2 h
  unfold FV.val FV.arr at *
  go_enter Tryz.func54, Tryz.ntmps54
  go_wp2_with fail
  refine (HFI.out _ _ (by simp) B0.out).mono ?_
  rintro e w1 ⟨rfl, hb1⟩
  have a1 := B0.out.alloc B0.out.size (.cells #[.int .i64 i] 3)
  have B1 := hidE (a1.trans (hb1.mono a1.size))
  clear a1
  clear hb1
  go_wp2_with fail
  go_ret2
  exact ⟨⟨_, rfl, World.ownsRow_nil _ _ _ _⟩, B1.out⟩
end Go.Proofs.YthjmkmjojlfejaaGreat
namespace Go.Proofs.YthjmkmjojlfejaaGreat
theorem sumN_ind (g : Nat → Int) (p : Nat) : ∀ n, sumN (fun i => if p = i then g i else 0) n = if p < n then g p else 0
 | 0 => by simp [sumN]
 | n + 1 => by
   simp only [sumN]
   rw [sumN_ind g p n]
   by_cases e : p = n
   ·subst e; simp
   ·rw [if_neg e]
    by_cases h : p < n
    ·rw [if_pos h, if_pos (by omega)]; omega
    ·rw [if_neg h, if_neg (by omega)]; rfl
theorem form_addAt {l : List Int} (y : List Int) {p : Nat} (d : Int) (hp : p < l.length) : formP (addAt l p d) y = formP l y + d * y.getD p 0 := by
 unfold formP
 rw [addAt_len]
 have e : ∀ i, i < l.length → (addAt l p d).getD i 0 * y.getD i 0 = l.getD i 0 * y.getD i 0 + (if p = i then d * y.getD i 0 else 0) := by
  intro i hi
  rw [addAt_get]
  by_cases h : p = i
  ·rw [if_pos ⟨h, hp⟩, if_pos h, Int.add_mul]
  ·rw [if_neg (fun q => h q.1), if_neg h]; simp
 rw [sumN_congr e, sumN_add, sumN_ind (fun i => d * y.getD i 0) p, if_pos hp]
theorem form_wStep {l y : List Int} {s : Str} (h1 : s.so.toNat < l.length) (h2 : s.no.toNat < l.length) (h3 : s.fso.toNat < l.length) (h4 : s.fno.toNat < l.length) :
 formP (wStep l s) y = formP l y + (gsOf y s).area := by
 unfold wStep
 rw [form_addAt _ _ (by simp only [addAt_len]; exact h4), form_addAt _ _ (by simp only [addAt_len]; exact h2), form_addAt _ _ (by simp only [addAt_len]; exact h3), form_addAt _ _ h1]
 show _ = _ + (s.east - s.west) * ((y.getD s.no.toNat 0 - y.getD s.so.toNat 0) + (y.getD s.fno.toNat 0 - y.getD s.fso.toNat 0))
 show _ + -(s.east - s.west) * _ + -(s.east - s.west) * _ + (s.east - s.west) * _ + (s.east - s.west) * _ = _
 grind
theorem form_zeros (n : Nat) (y : List Int) : formP (List.replicate n 0) y = 0 := by
 unfold formP
 refine sumN_zero fun i hi => ?_
 have : (List.replicate n (0 : Int)).getD i 0 = 0 := by
  simp only [List.getD_eq_getElem?_getD, List.getElem?_replicate]
  split <;> rfl
 rw [this]; simp
theorem form_strips {y : List Int} {N : Nat} : ∀ (ss : List Str) (l : List Int), l.length = N → (∀ s ∈ ss, s.so.toNat < N ∧ s.no.toNat < N ∧ s.fso.toNat < N ∧ s.fno.toNat < N) → formP (ss.foldl wStep l) y = formP l y + isum ((ss.map (gsOf y)).map Gs.area)
 | [], l, _, _ => by simp [isum]
 | s :: ss, l, hl, h => by
   obtain ⟨h1, h2, h3, h4⟩ := h s (List.mem_cons_self ..)
   rw [List.foldl_cons, form_strips ss _ (by rw [wStep_len]; exact hl) (fun t ht => h t (List.mem_cons_of_mem _ ht)), form_wStep (by omega) (by omega) (by omega) (by omega)]
   simp only [List.map_cons, isum]
   omega
theorem strip_lt {F : Fld} {p : Par} (hp : p.inside F) : ∀ s ∈ stripsP F p, s.so.toNat < F.points.toNat ∧ s.no.toNat < F.points.toNat ∧ s.fso.toNat < F.points.toNat ∧ s.fno.toNat < F.points.toNat := by
 intro s hs
 obtain ⟨k, hk, rfl⟩ := List.getElem_of_mem hs
 rw [stripsP_get F p hk]
 have hk2 : k < (p.est - p.wst).toNat := by rw [stripsP, stripsTo_len] at hk; exact hk
 obtain ⟨_, _, q3, q4, q5⟩ := id hp
 obtain ⟨a, b, c, d⟩ := strip_pts hp (s := p.wst.toNat + k) (by omega)
 omega
theorem form_area (F : Fld) (y : List Int) {p : Par} (hp : p.inside F) : formP (weightsOf F p) y = areaTo (grP F y p) (grP F y p).length := by
 unfold weightsOf
 rw [form_strips _ _ (List.length_replicate ..) (strip_lt hp), form_zeros]
 unfold areaTo grP
 rw [List.take_length]
 omega
def oneF (F : Fld) (q : Par) : Fld := { F with prs := [q] }
theorem check_one {F : Fld} (h : F.check = 0) {n : Nat} (hn : n < F.prs.length) {q : Par} (hq : q.name = F.prs[n].name) (hr : parRange F.lms.length F.sts.length q = true) (hw : q.wst < q.est) : (oneF F q).check = 0 := by
 unfold Fld.check at h
 split at h
 ·omega
 rename_i h1
 split at h
 ·omega
 rename_i h2
 split at h
 ·rename_i h3; exact absurd h h3
 rename_i h3
 split at h
 ·omega
 rename_i h4
 split at h
 ·omega
 rename_i h5
 split at h
 ·omega
 rename_i h6
 split at h
 ·omega
 rename_i h7
 split at h
 ·omega
 rename_i h8
 unfold Fld.check oneF
 have g4 : (({ F with prs := [q] } : Fld).names.any fun l => l.any fun s => !isNameB s) = false := by
  simp only [Fld.names, List.any_cons, List.any_nil, Bool.or_false, List.map_cons, List.map_nil, Bool.not_eq_true, Bool.or_eq_false_iff] at h4 ⊢
  refine ⟨h4.1, h4.2.1, ?_⟩
  have := List.any_eq_false.1 h4.2.2 q.name (by rw [hq]; exact List.mem_map.2 ⟨_, List.getElem_mem hn, rfl⟩)
  simpa using this
 have g5 : (({ F with prs := [q] } : Fld).names.any fun l => twiceTo l l.length) = false := by
  simp only [Fld.names, List.any_cons, List.any_nil, Bool.or_false, List.map_cons, List.map_nil, Bool.not_eq_true, Bool.or_eq_false_iff] at h5 ⊢
  exact ⟨h5.1, h5.2.1, rfl⟩
 rw [if_neg (by simp only [List.length_cons, List.length_nil]; omega), if_neg h2, if_neg h3, if_neg (by rw [g4]; simp), if_neg (by rw [g5]; simp), if_neg h6, if_neg (by simp [hr]), if_neg h8, if_neg]
 have : parsTo [q] [q].length = true := by
  unfold parsTo
  simp [List.range_succ, hw]
 rw [this]
 simp
theorem piece_fit {F : Fld} {N : Int} {bs : List Bd} {i : Int} (h : fitE F N bs [i] = 0) {k : Nat} (hk : k < (piecesP (F.par i)).length) :
 (oneF F (pieceP (F.par i) k)).check = 0 ∧ fitE (oneF F (pieceP (F.par i) k)) N bs [0] = 0 ∧ (oneF F (pieceP (F.par i) k)).par 0 = pieceP (F.par i) k ∧ (pieceP (F.par i) k).inside F := by
 obtain ⟨h1, h2, h3, h4⟩ := fit0 h
 obtain ⟨_, n, rfl, hn, hpar⟩ := fielded_one h4
 obtain ⟨q1, q2, q3, q4, q5⟩ := check0_inside h1 (List.getElem_mem hn)
 rw [hpar] at hk ⊢
 have hk2 : k < (F.prs[n].est - F.prs[n].wst).toNat := by simpa [piecesP, piecesTo_len] using hk
 have hin : (pieceP F.prs[n] k).inside F := ⟨q1, q2, by show 0 ≤ F.prs[n].wst + k; omega, by show F.prs[n].wst + k < F.prs[n].wst + k + 1; omega, by show F.prs[n].wst + k + 1 < F.sts.length; omega⟩
 have hck : (oneF F (pieceP F.prs[n] k)).check = 0 := by
  refine check_one h1 hn rfl ?_ hin.2.2.2.1
  unfold parRange inR
  simp only [Bool.and_eq_true, decide_eq_true_eq]
  obtain ⟨a1, a2, a3, a4, a5⟩ := hin
  omega
 refine ⟨hck, ?_, rfl, hin⟩
 unfold fitE
 rw [if_neg (by omega), if_neg (by omega), if_pos (show N = (oneF F _).points from h3)]
 unfold fieldedE
 rw [if_neg (by omega)]
 simp [oneF, inR]
theorem weights_one (F : Fld) (q p : Par) : weightsOf (oneF F q) p = weightsOf F p := rfl
theorem piece_form {F : Fld} (y : List Int) {p : Par} (hp : p.inside F) {k : Nat} (hk : k < (grP F y p).length) : formP (weightsOf F (pieceP p k)) y = (grP F y p)[k].area := by
 obtain ⟨q1, q2, q3, q4, q5⟩ := hp
 have hk2 : k < (p.est - p.wst).toNat := by rw [grP_len] at hk; exact hk
 have hin : (pieceP p k).inside F := ⟨q1, q2, by show 0 ≤ p.wst + k; omega, by show p.wst + k < p.wst + k + 1; omega, by show p.wst + k + 1 < F.sts.length; omega⟩
 rw [form_area F y hin]
 have hl : (grP F y (pieceP p k)).length = 1 := by rw [grP_len]; show (p.wst + k + 1 - (p.wst + k)).toNat = 1; omega
 have h0 : (grP F y (pieceP p k))[0]'(by omega) = (grP F y p)[k] := by
  rw [grP_get F y p hk, grP_get]
  show gsOf y (stripP F (pieceP p k) ((p.wst + (k : Int)).toNat + 0)) = _
  rw [show (p.wst + (k : Int)).toNat + 0 = p.wst.toNat + k by omega]
  rfl
 rw [hl, areaTo_succ (by omega), h0]
 simp [areaTo, isum]
def pieceSum (F : Fld) (y : List Int) (p : Par) (k : Nat) : Int := areaTo (grP F y p) k
theorem pieceSum_zero (F : Fld) (y : List Int) (p : Par) : pieceSum F y p 0 = 0 := by simp [pieceSum, areaTo, isum]
theorem pieceSum_succ {F : Fld} (y : List Int) {p : Par} (hp : p.inside F) {k : Nat} (hk : k < (p.est - p.wst).toNat) : pieceSum F y p (k + 1) = pieceSum F y p k + formP (weightsOf F (pieceP p k)) y := by
 have hl : k < (grP F y p).length := by rw [grP_len]; exact hk
 unfold pieceSum
 rw [areaTo_succ hl, piece_form y hp hl]
theorem pieceSum_all {F : Fld} (y : List Int) {p : Par} (hp : p.inside F) : pieceSum F y p (p.est - p.wst).toNat = formP (weightsOf F p) y := by
 unfold pieceSum
 rw [form_area F y hp, grP_len]
theorem piece_ends {F : Fld} {N : Int} {bs : List Bd} {i : Int} {f g f2 g2 : Nat} {R S R2 S2 : Option BestR} (h : RunsOk F N bs i f R g S) (hf : fitE F N bs [i] = 0) (hc : consP N bs = 0) {k : Nat} (hk : k < (piecesP (F.par i)).length)
 (h2 : RunsOk (oneF F (pieceP (F.par i) k)) N bs 0 f2 R2 g2 S2) {s r t u : BestR} (hs : S = some s) (hr : R = some r) (ht : S2 = some t) (hu : R2 = some u) :
 -t.n ≤ formP (weightsOf F (pieceP (F.par i) k)) s.y ∧ formP (weightsOf F (pieceP (F.par i) k)) r.y ≤ u.n ∧ -s.n = formP (weightsOf F (F.par i)) s.y ∧ r.n = formP (weightsOf F (F.par i)) r.y ∧ (-100000000000000000 ≤ t.n ∧ t.n ≤ 100000000000000000) ∧ (-100000000000000000 ≤ u.n ∧ u.n ≤ 100000000000000000) := by
 obtain ⟨c1, c2, c3, c4⟩ := piece_fit hf hk
 have E := h hf hc
 have E2 := h2 c2 hc
 rw [c3] at E2
 obtain ⟨n, rfl, m1, m2, m3, m4, m5, m6, m7, _⟩ := fit_parts hf
 obtain ⟨n', hn', _, _, _, _, _, p6, p7, _⟩ := fit_parts c2
 obtain rfl : n = n' := by omega
 rw [Int.toNat_natCast] at E E2
 rw [c3] at p6 p7
 rw [weights_one] at E2 p6 p7
 obtain ⟨b1, e1⟩ := E.lk s hs
 obtain ⟨b2, e2⟩ := E.ho r hr
 have hwm : ∀ v ∈ weightsOf F (pieceP (F.par i) k), -1000000 ≤ v ∧ v ≤ 1000000 := fun v hv => by
  obtain ⟨j, hj, rfl⟩ := List.getElem_of_mem hv
  have := p7 j
  rw [getD_get _ 0 hj] at this
  exact this
 have hwn : ∀ v ∈ (weightsOf F (pieceP (F.par i) k)).map (-·), -1000000 ≤ v ∧ v ≤ 1000000 := fun v hv => by
  obtain ⟨j, hj, rfl⟩ := List.mem_map.1 hv
  have := hwm j hj
  omega
 rw [form_neg] at e1
 exact ⟨(E2.between2 m1 m4 p6 b1.keeps).2 t ht, (E2.between2 m1 m4 p6 b2.keeps).1 u hu, by omega, e2,
  best_n_bd m1 m2 m4 E2.lo (by rw [List.length_map]; exact p6) hwn t ht, best_n_bd m1 m2 m4 E2.hi p6 hwm u hu⟩
end Go.Proofs.YthjmkmjojlfejaaGreat
namespace Go.Proofs.YthjmkmjojlfejaaGreat
open Go Go.RowKit Go.Shelf
def fewA (N : Int) (m : Nat) : Bool := (decide ((m : Int) ≤ 70) && (decide (N ≤ 26) || decide (N > 128))) || (decide ((m : Int) > 2000) && decide ((m : Int) ≤ 2005))
set_option maxHeartbeats 4000000 in
theorem fewA_any (w : World) (N : Int) (a : Option Addr) (n cap : Nat) (hn : n ≤ 9223372036854775807) :
 Calls Tryz.prog 21 #[.agg #[.int .i64 N, .slice a n cap]] w fun e w' => e = .returned (.bool (fewA N n)) ∧ Below w.heap.size w w' := by
 have B0 := hidE (show Below w.heap.size w (w.alloc (.cells #[.int .i64 N, .slice a n cap] 24)) from (Below.refl _ _).alloc (Nat.le_refl _) _)
 obtain ⟨P, hP⟩ : ∃ P, fewA N n = P := ⟨_, rfl⟩
 rw [hP]
 unfold fewA at hP
 by_cases h1 : n ≤ 70
 ·by_cases h2 : N ≤ 26
  ·have f0 : decide ((n : Int) ≤ 70) = true := by simp; omega
   have f1 : decide (n ≤ 70) = true := by simp; omega
   have f2 : decide (N ≤ 26) = true := by simp; omega
   have HP := hidE (show true = P by rw [← hP]; simp [h2, show (n : Int) ≤ 70 by omega] <;> omega)
   clear hP
   go_enter Tryz.func21, Tryz.ntmps21
   go_wp2_with fail
   go_ret
   exact ⟨by rw [← HP.out]; rfl, B0.out⟩
  ·by_cases h3 : 128 < N
   ·have f0 : decide ((n : Int) ≤ 70) = true := by simp; omega
    have f1 : decide (n ≤ 70) = true := by simp; omega
    have f2 : decide (N ≤ 26) = false := by simp; omega
    have f3 : decide (N > 128) = true := by simp; omega
    have f4 : decide (128 < N) = true := by simp; omega
    have HP := hidE (show true = P by rw [← hP]; simp [h3, show (n : Int) ≤ 70 by omega] <;> omega)
    clear hP
    go_enter Tryz.func21, Tryz.ntmps21
    go_wp2_with fail
    go_ret
    exact ⟨by rw [← HP.out]; rfl, B0.out⟩
   ·have f0 : decide ((n : Int) ≤ 70) = true := by simp; omega
    have f1 : decide (n ≤ 70) = true := by simp; omega
    have f2 : decide (N ≤ 26) = false := by simp; omega
    have f3 : decide (N > 128) = false := by simp; omega
    have f4 : decide (128 < N) = false := by simp; omega
    have f5 : decide ((n : Int) > 2000) = false := by simp; omega
    have f6 : decide (2000 < n) = false := by simp; omega
    have HP := hidE (show false = P by rw [← hP]; simp [h2, h3] <;> omega)
    clear hP
    go_enter Tryz.func21, Tryz.ntmps21
    go_wp2_with fail
    go_ret
    exact ⟨by rw [← HP.out]; rfl, B0.out⟩
 ·by_cases h2 : 2000 < n
  ·by_cases h3 : n ≤ 2005
   ·have f0 : decide ((n : Int) ≤ 70) = false := by simp; omega
    have f1 : decide (n ≤ 70) = false := by simp; omega
    have f2 : decide ((n : Int) > 2000) = true := by simp; omega
    have f3 : decide (2000 < n) = true := by simp; omega
    have f4 : decide ((n : Int) ≤ 2005) = true := by simp; omega
    have f5 : decide (n ≤ 2005) = true := by simp; omega
    have HP := hidE (show true = P by rw [← hP]; simp [show (n : Int) ≤ 2005 by omega, show 2000 < (n : Int) by omega] <;> omega)
    clear hP
    go_enter Tryz.func21, Tryz.ntmps21
    go_wp2_with fail
    go_ret
    exact ⟨by rw [← HP.out]; rfl, B0.out⟩
   ·have f0 : decide ((n : Int) ≤ 70) = false := by simp; omega
    have f1 : decide (n ≤ 70) = false := by simp; omega
    have f2 : decide ((n : Int) > 2000) = true := by simp; omega
    have f3 : decide (2000 < n) = true := by simp; omega
    have f4 : decide ((n : Int) ≤ 2005) = false := by simp; omega
    have f5 : decide (n ≤ 2005) = false := by simp; omega
    have HP := hidE (show false = P by rw [← hP]; simp [show ¬ (n : Int) ≤ 2005 by omega, show ¬ (n : Int) ≤ 70 by omega] <;> omega)
    clear hP
    go_enter Tryz.func21, Tryz.ntmps21
    go_wp2_with fail
    go_ret
    exact ⟨by rw [← HP.out]; rfl, B0.out⟩
  ·have f0 : decide ((n : Int) ≤ 70) = false := by simp; omega
   have f1 : decide (n ≤ 70) = false := by simp; omega
   have f2 : decide ((n : Int) > 2000) = false := by simp; omega
   have f3 : decide (2000 < n) = false := by simp; omega
   have HP := hidE (show false = P by rw [← hP]; simp [show ¬ (n : Int) ≤ 70 by omega] <;> omega)
   clear hP
   go_enter Tryz.func21, Tryz.ntmps21
   go_wp2_with fail
   go_ret
   exact ⟨by rw [← HP.out]; rfl, B0.out⟩
def smallP (F : Fld) : Bool := plainP F && decide (F.sts.length * F.lms.length ≤ 25)
set_option maxHeartbeats 4000000 in
theorem small_any (w : World) (x : FV) (F : Fld) (h1 : F.sts.length ≤ 9223372036854775807) (h2 : F.lms.length ≤ 9223372036854775807) (h3 : F.prs.length ≤ 9223372036854775807) (h4 : F.vrs.length ≤ 9223372036854775807) :
 Calls Tryz.prog 56 #[x.val F] w fun e w' => e = .returned (.bool (smallP F)) ∧ Below w.heap.size w w' := by
 have hpl := plain_any (w.alloc (.cells (x.arr F) 46)) x F h1 h2 h3 h4
 have B0 := hidE (show Below w.heap.size w (w.alloc (.cells (x.arr F) 46)) from (Below.refl _ _).alloc (Nat.le_refl _) _)
 have X0 := hidE (heap_alloc_new w (.cells (x.arr F) 46))
 have l0 : w.heap.size < (w.alloc (.cells (x.arr F) 46)).heap.size := by simp
 obtain ⟨P, hP⟩ : ∃ P, smallP F = P := ⟨_, rfl⟩
 rw [hP]
 unfold smallP at hP
 have hb : plainP F = true → F.sts.length ≤ 14 ∧ F.lms.length ≤ 12 := by
  intro h
  unfold plainP at h
  simp only [Bool.and_eq_true, decide_eq_true_eq] at h
  exact ⟨h.1.1.1, h.1.1.2⟩
 unfold FV.val FV.arr at *
 cases hq : plainP F with
 | false =>
   rw [hq] at hpl hP
   have HP := hidE (show false = P from hP)
   have HPL := hidE hpl
   clear hpl hP hb hq
   go_enter Tryz.func56, Tryz.ntmps56
   go_wp2_with fail
   refine HPL.out.mono ?_
   rintro e w1 ⟨rfl, hb1⟩
   have B1 := hidE (B0.out.trans (hb1.mono B0.out.size))
   clear hb1
   go_wp2_with fail
   go_ret
   exact ⟨by rw [← HP.out]; rfl, B1.out⟩
 | true =>
   obtain ⟨b1, b2⟩ := hb hq
   rw [hq] at hpl hP
   have hm : F.sts.length * F.lms.length ≤ 14 * 12 := Nat.mul_le_mul b1 b2
   have HPL := hidE hpl
   clear hpl hq hb
   obtain ⟨n1, e1⟩ : ∃ n, F.sts.length = n := ⟨_, rfl⟩
   obtain ⟨n2, e2⟩ : ∃ n, F.lms.length = n := ⟨_, rfl⟩
   rw [e1, e2] at hm hP
   rw [e1] at h1 HPL B0 X0 l0 ⊢
   rw [e2] at h2 HPL B0 X0 l0 ⊢
   clear e1 e2
   obtain ⟨m, hmm⟩ : ∃ m, n1 * n2 = m := ⟨_, rfl⟩
   have hmi : (n1 : Int) * (n2 : Int) = (m : Int) := by rw [← hmm]; simp
   rw [hmm] at hm hP
   have hwm : IntKind.i64.wrap (m : Int) = (m : Int) := IntWalk.i64_in _ (by omega)
   clear hmm
   by_cases hc : m ≤ 25
   ·have d1 : decide ((m : Int) ≤ 25) = true := by simp; omega
    have d2 : decide (m ≤ 25) = true := by simp; omega
    have HP := hidE (show true = P by rw [← hP, d2]; rfl)
    clear hP
    go_enter Tryz.func56, Tryz.ntmps56
    go_wp2_with fail
    refine HPL.out.mono ?_
    rintro e w1 ⟨rfl, hb1⟩
    have B1 := hidE (B0.out.trans (hb1.mono B0.out.size))
    have X1 := hidE (blk_below hb1 l0 X0.out)
    have f0 : w1.cell? ⟨w.heap.size, 0, none⟩ = some (.slice x.aS n1 x.cS) := c_e X1.out rfl
    have f1 : w1.cell? ⟨w.heap.size, 1, none⟩ = some (.slice x.aL n2 x.cL) := c_e X1.out rfl
    clear hb1 l0
    go_wp2_with fail
    go_ret
    exact ⟨by rw [← HP.out]; rfl, B1.out⟩
   ·have d1 : decide ((m : Int) ≤ 25) = false := by simp; omega
    have d2 : decide (m ≤ 25) = false := by simp; omega
    have HP := hidE (show false = P by rw [← hP, d2]; rfl)
    clear hP
    go_enter Tryz.func56, Tryz.ntmps56
    go_wp2_with fail
    refine HPL.out.mono ?_
    rintro e w1 ⟨rfl, hb1⟩
    have B1 := hidE (B0.out.trans (hb1.mono B0.out.size))
    have X1 := hidE (blk_below hb1 l0 X0.out)
    have f0 : w1.cell? ⟨w.heap.size, 0, none⟩ = some (.slice x.aS n1 x.cS) := c_e X1.out rfl
    have f1 : w1.cell? ⟨w.heap.size, 1, none⟩ = some (.slice x.aL n2 x.cL) := c_e X1.out rfl
    clear hb1 l0
    go_wp2_with fail
    go_ret
    exact ⟨by rw [← HP.out]; rfl, B1.out⟩
theorem BoundsPost.look {fit err : Int} {S R : Option BestR} {base : Nat} {e : Ending} {w' : World} (h : BoundsPost fit err S R base e w') :
 ∃ (lo hi er : Int) (o2 o3 o4 o5 : Option Addr) (n2 n3 n4 n5 c2 c3 c4 c5 : Nat), e = .returned (.tuple #[.agg #[.int .i64 lo, .int .i64 hi, .slice o2 n2 c2, .slice o3 n3 c3, .slice o4 n4 c4, .slice o5 n5 c5], .int .i64 er]) ∧
  (er = 0 → fit = 0 ∧ err = 0 ∧ ∃ s r, S = some s ∧ R = some r ∧ lo = -s.n ∧ hi = r.n) ∧ (fit = 0 → err = 0 → (∃ s, S = some s) → (∃ r, R = some r) → er = 0) := by
 rcases h with ⟨h0, e⟩ | ⟨h0, ⟨h1, e⟩ | ⟨h1, hn, e⟩ | ⟨h1, s, r, gy, gF, hy, hF, hs, hr, _, _, _, _, e, _⟩⟩
 ·exact ⟨_, _, _, _, _, _, _, _, _, _, _, _, _, _, _, e, fun q => absurd q h0, fun q => absurd q h0⟩
 ·exact ⟨_, _, _, _, _, _, _, _, _, _, _, _, _, _, _, e, fun q => absurd q h1, fun _ q => absurd q h1⟩
 ·refine ⟨_, _, _, _, _, _, _, _, _, _, _, _, _, _, _, e, fun q => absurd q (by decide), fun _ _ ⟨s, hs⟩ ⟨r, hr⟩ => ?_⟩
  rcases hn with q | q
  ·rw [hs] at q; cases q
  ·rw [hr] at q; cases q
 ·exact ⟨_, _, _, _, _, _, _, _, _, _, _, _, _, _, _, e, fun _ => ⟨h0, h1, s, r, hs, hr, rfl, rfl⟩, fun _ _ _ _ => rfl⟩
theorem pars_cap {W : World} {base : Nat} {v : Value} {l : List Par} (h : W.ownsRow base 53 4 v l.length (l.flatMap Par.cells)) : ∃ o c, v = .slice o l.length c ∧ ParsAt W o l := by
 obtain ⟨o, c, e, h1, _⟩ := recsAt_of_owns (f := Par.cells) (fun _ => rfl) h
 exact ⟨o, c, e, h1⟩
theorem BoundsPost.look2 {fit err : Int} {S R : Option BestR} {base : Nat} {e : Ending} {w' : World} (h : BoundsPost fit err S R base e w') (h0 : fit = 0) (h1 : err = 0) :
 ∃ (lo hi er : Int) (o2 o3 o4 o5 : Option Addr) (n2 n3 n4 n5 c2 c3 c4 c5 : Nat), e = .returned (.tuple #[.agg #[.int .i64 lo, .int .i64 hi, .slice o2 n2 c2, .slice o3 n3 c3, .slice o4 n4 c4, .slice o5 n5 c5], .int .i64 er]) ∧
  ((er = 0 ∧ ∃ s r, S = some s ∧ R = some r ∧ lo = -s.n ∧ hi = r.n) ∨ er = 50) := by
 rcases h with ⟨q, e⟩ | ⟨_, ⟨q, e⟩ | ⟨_, hn, e⟩ | ⟨_, s, r, gy, gF, hy, hF, hs, hr, _, _, _, _, e, _⟩⟩
 ·exact absurd h0 q
 ·exact absurd h1 q
 ·exact ⟨_, _, _, _, _, _, _, _, _, _, _, _, _, _, _, e, .inr rfl⟩
 ·exact ⟨_, _, _, _, _, _, _, _, _, _, _, _, _, _, _, e, .inl ⟨rfl, s, r, hs, hr, rfl, rfl⟩⟩
structure PJ (w : World) (x : FV) (F : Fld) (N : Int) (a : Option Addr) (cap : Nat) (bs : List Bd) (a3 : Option Addr) (y : List Int) (W : World) : Prop where
 j : FJ w x F a3 y W
 s1 : W.heap[w.heap.size + 1]? = some (.cells #[.int .i64 N, .slice a bs.length cap] 24 (0,0))
 b1 : BoundsAt W a bs
section
variable {w W W' : World} {x : FV} {F : Fld} {N : Int} {a : Option Addr} {cap : Nat} {bs : List Bd} {a3 : Option Addr} {y : List Int}
theorem PJ.next (h : PJ w x F N a cap bs a3 y W) (hb : Below W.heap.size W W') : PJ w x F N a cap bs a3 y W' :=
 ⟨h.j.next hb, blk_below hb (lt_of_block h.s1) h.s1, h.b1.below hb (Nat.le_refl _)⟩
theorem PJ.alloc (h : PJ w x F N a cap bs a3 y W) (o : Obj) : PJ w x F N a cap bs a3 y (W.alloc o) := h.next ((Below.refl _ _).alloc (Nat.le_refl _) _)
theorem PJ.begin (h : FldAt w x F) (h1 : BoundsAt w a bs) (h3 : IntsAt w a3 y) :
 PJ w x F N a cap bs a3 y ((w.alloc (.cells (x.arr F) 46)).alloc (.cells #[.int .i64 N, .slice a bs.length cap] 24)) := by
 have k := heap_alloc_new (w.alloc (.cells (x.arr F) 46)) (.cells #[.int .i64 N, .slice a bs.length cap] 24)
 simp only [show (w.alloc (.cells (x.arr F) 46)).heap.size = w.heap.size + 1 by simp] at k
 exact ⟨(FJ.begin h h3).alloc _, k, (h1.alloc _).alloc _⟩
theorem PJ.c (h : PJ w x F N a cap bs a3 y W) : W.cell? ⟨w.heap.size + 1, 0, none⟩ = some (.int .i64 N) ∧ W.cell? ⟨w.heap.size + 1, 1, none⟩ = some (.slice a bs.length cap) := ⟨ce h.s1 rfl, ce h.s1 rfl⟩
end
theorem FldAt.one {W : World} {x : FV} {F : Fld} {q : Par} {g n : Nat} (h : FldAt W x F) (hn : n < F.prs.length) (hq : q.name = F.prs[n].name) (hg : W.heap[g]? = some (.cells q.cells.toArray 53 (0,0))) (hx : i64ok q.south ∧ i64ok q.wst ∧ i64ok q.est) :
 FldAt W ⟨x.aS, x.cS, x.aL, x.cL, some ⟨g, 0, none⟩, 1, x.aV, x.cV⟩ (oneF F q) := by
 refine ⟨h.st, h.lm, ?_, h.vr, h.ls, h.ll, ⟨by simp [oneF], by simp⟩, h.lv, ?_, h.sx, ?_, h.vx⟩
 ·refine .inr ⟨g, 0, rfl, lt_of_block hg, fun i hi j hj => ?_⟩
  have hi0 : i = 0 := by simp [oneF] at hi; omega
  subst hi0
  rw [cell_of_row _ _ _ _ _ _ hg]
  simp [oneF]
 ·intro l hl s hs
  simp only [Fld.names, oneF, List.map_cons, List.map_nil, List.mem_cons, List.not_mem_nil, or_false] at hl
  rcases hl with rfl | rfl | rfl
  ·exact h.nm _ (by simp [Fld.names]) s hs
  ·exact h.nm _ (by simp [Fld.names]) s hs
  ·simp only [List.mem_cons, List.not_mem_nil, or_false] at hs
   subst hs
   exact h.nm (F.prs.map Par.name) (by simp [Fld.names]) _ (by rw [hq]; exact List.mem_map.2 ⟨_, List.getElem_mem hn, rfl⟩)
 ·intro p hp
  simp only [oneF, List.mem_cons, List.not_mem_nil, or_false] at hp
  subst hp
  exact hx
def sumPc (F : Fld) (i : Int) (y : List Int) (k : Nat) : Int := if valuesB F.points y = false then 0 else pieceSum F y (F.par i) k
theorem area_piece {F : Fld} {N : Int} {bs : List Bd} {i : Int} (y : List Int) (h : fitE F N bs [i] = 0) {k : Nat} (hk : k < (piecesP (F.par i)).length) :
 (area2E (oneF F (pieceP (F.par i) k)) 0 y).2 = (area2E F i y).2 ∧ sumPc F i y (k + 1) = sumPc F i y k + (area2E (oneF F (pieceP (F.par i) k)) 0 y).1 ∧ -19360000000000000 ≤ (area2E (oneF F (pieceP (F.par i) k)) 0 y).1 ∧ (area2E (oneF F (pieceP (F.par i) k)) 0 y).1 ≤ 19360000000000000 := by
 obtain ⟨c1, c2, c3, c4⟩ := piece_fit h hk
 obtain ⟨_, _, _, h4⟩ := fit0 h
 obtain ⟨_, _, _, c5⟩ := fit0 c2
 obtain ⟨hc, n, rfl, hn, hpar⟩ := fielded_one h4
 have hp := check0_inside hc (List.getElem_mem hn)
 rw [← hpar] at hp
 have hk2 : k < ((F.par n).est - (F.par n).wst).toNat := by rw [piecesP, piecesTo_len] at hk; exact hk
 have A1 : area2E (oneF F (pieceP (F.par n) k)) 0 y = if valuesB F.points y = false then (0, 1) else (formP (weightsOf F (pieceP (F.par n) k)) y, 0) := by
  unfold area2E
  rw [if_neg (by omega), c3]
  rfl
 have A2 : area2E F n y = if valuesB F.points y = false then (0, 1) else (formP (weightsOf F (F.par n)) y, 0) := by
  unfold area2E
  rw [if_neg (by omega)]
 unfold sumPc
 rw [A1, A2]
 cases hv : valuesB F.points y with
 | false => simp
 | true =>
   have hpn := points_nat hc
   have hvb := valuesB_iff.1 (show valuesB (F.points.toNat : Int) y = true by rw [hpn.2.2]; exact hv)
   have hwb := weightsOf_bd hc c4
   have hb := formP_bd (l := weightsOf F (pieceP (F.par n) k)) (y := y) (by rw [weightsOf_len]; omega) (fun j => by have := hwb j; omega) hvb.2.2
   simp only [Bool.true_eq_false, if_false]
   exact ⟨trivial, pieceSum_succ y hp hk2, hb.1, hb.2⟩
theorem area_all {F : Fld} {N : Int} {bs : List Bd} {i : Int} (y : List Int) (h : fitE F N bs [i] = 0) : sumPc F i y (piecesP (F.par i)).length = (area2E F i y).1 ∧ sumPc F i y 0 = 0 ∧ (piecesP (F.par i)).length ≤ 12 ∧ 0 < (piecesP (F.par i)).length ∧ piecesE F i = (piecesP (F.par i), 0) ∧ (F.par i).inside F := by
 obtain ⟨_, _, _, h4⟩ := fit0 h
 obtain ⟨hc, n, rfl, hn, hpar⟩ := fielded_one h4
 have hp := check0_inside hc (List.getElem_mem hn)
 have hl := check0_len hc
 rw [← hpar] at hp
 have hk : (piecesP (F.par n)).length = ((F.par n).est - (F.par n).wst).toNat := by rw [piecesP, piecesTo_len]
 obtain ⟨q1, q2, q3, q4, q5⟩ := hp
 refine ⟨?_, ?_, by omega, by omega, by unfold piecesE; rw [if_neg (by omega)], ⟨q1, q2, q3, q4, q5⟩⟩
 ·have A2 : area2E F n y = if valuesB F.points y = false then (0, 1) else (formP (weightsOf F (F.par n)) y, 0) := by
   unfold area2E
   rw [if_neg (by omega)]
  unfold sumPc
  rw [A2, hk, pieceSum_all y ⟨q1, q2, q3, q4, q5⟩]
  cases valuesB F.points y <;> simp
 ·unfold sumPc
  rw [pieceSum_zero]
  simp
set_option maxRecDepth 100000 in
set_option maxHeartbeats 64000000 in
theorem areaPieces_of (hal : AliveOk) (w : World) (x : FV) (F : Fld) (N : Int) (a : Option Addr) (cap : Nat) (bs : List Bd) (i : Int) (a3 : Option Addr) (cap3 : Nat) (y : List Int)
 (hF : FldAt w x F) (hN : i64ok N) (hl : bs.length ≤ 9223372036854775807) (h1 : BoundsAt w a bs) (hy : y.length ≤ 9223372036854775807) (h3 : IntsAt w a3 y) :
 Calls Tryz.prog 16 #[x.val F, .agg #[.int .i64 N, .slice a bs.length cap], .int .i64 i, .slice a3 y.length cap3] w fun e w' => e = .returned (.bool true) ∧ Below w.heap.size w w' := by
 have HAL := hidE hal
 obtain ⟨w0, hw0⟩ : ∃ W, W = (w.alloc (.cells (x.arr F) 46)).alloc (.cells #[.int .i64 N, .slice a bs.length cap] 24) := ⟨_, rfl⟩
 have J0 := hidE (show PJ w x F N a cap bs a3 y w0 by rw [hw0]; exact PJ.begin hF h1 h3)
 have HSM := hidE (fun (W : World) => small_any W x F (by have := hF.ls; omega) (by have := hF.ll; omega) (by have := hF.lp; omega) (by have := hF.lv; omega))
 have HF1 := hidE (fun (W : World) => fewA_any W N a bs.length cap (by omega))
 obtain ⟨f, R, g, S, hrun⟩ := runs_ex F N bs i
 have HBO := hidE (fun (W : World) (J : PJ w x F N a cap bs a3 y W) => bounds_any W x F N a cap bs i f R g S J.j.fld hN hl J.b1 (fun p q => hrun.run p q))
 have HKE := hidE (fun (W : World) (J : PJ w x F N a cap bs a3 y W) => kept_any W N a cap bs a3 cap3 y hN hl hy J.b1 J.j.ints)
 have HAR := hidE (fun (W : World) (J : PJ w x F N a cap bs a3 y W) => area2E_any W x F i a3 cap3 y hy J.j.fld J.j.ints)
 have HPI := hidE (fun (W : World) (J : PJ w x F N a cap bs a3 y W) => piecesE_any W x F i J.j.fld)
 have HRUN := hidE hrun
 have HN := hidE hN
 have HPX := hidE hF.px
 obtain ⟨f0, f1, f2c, f3⟩ := J0.out.j.c
 obtain ⟨s0, s1⟩ := J0.out.c
 have HFV : Hid (x.val F = .agg #[.slice x.aS F.sts.length x.cS, .slice x.aL F.lms.length x.cL, .slice x.aP F.prs.length x.cP, .slice x.aV F.vrs.length x.cV]) := hidE rfl
 unfold FV.val FV.arr at *
 clear hal hF h1 h3 hrun hN HFV
 cases hs : smallP F with
 | false =>
   rw [hs] at HSM
   clear hs
   go_enter Tryz.func16, Tryz.ntmps16
   go_upto_region 1 with fail
   rw [← hw0]
   clear hw0
   go_wp2_with fail
   refine (HSM.out _).mono ?_
   rintro e u0 ⟨rfl, hb⟩
   have E0 := hidE (J0.out.next hb)
   clear hb J0
   obtain ⟨f0, f1, f2c, f3⟩ := E0.out.j.c
   obtain ⟨s0, s1⟩ := E0.out.c
   go_wp2_with fail
   refine (HAL.out _).mono ?_
   rintro e u9 ⟨rfl, hb⟩
   have E9 := hidE (E0.out.next hb)
   clear hb E0
   go_wp2_with fail
   go_ret
   exact ⟨by simp, E9.out.j.b⟩
 | true =>
 rw [hs] at HSM
 cases hf1 : fewA N bs.length with
 | false =>
   rw [hf1] at HF1
   clear hs hf1
   go_enter Tryz.func16, Tryz.ntmps16
   go_upto_region 1 with fail
   rw [← hw0]
   clear hw0
   go_wp2_with fail
   refine (HSM.out _).mono ?_
   rintro e u0 ⟨rfl, hb⟩
   have E0 := hidE (J0.out.next hb)
   clear hb J0
   obtain ⟨f0, f1, f2c, f3⟩ := E0.out.j.c
   obtain ⟨s0, s1⟩ := E0.out.c
   go_wp2_with fail
   refine (HF1.out _).mono ?_
   rintro e u1 ⟨rfl, hb⟩
   have E1 := hidE (E0.out.next hb)
   clear hb E0
   obtain ⟨f0, f1, f2c, f3⟩ := E1.out.j.c
   obtain ⟨s0, s1⟩ := E1.out.c
   go_wp2_with fail
   refine (HAL.out _).mono ?_
   rintro e u9 ⟨rfl, hb⟩
   have E9 := hidE (E1.out.next hb)
   clear hb E1
   go_wp2_with fail
   go_ret
   exact ⟨by simp, E9.out.j.b⟩
 | true =>
 rw [hf1] at HF1
 by_cases hv : 200 < y.length
 ·have hd : decide ((y.length : Int) > 200) = true := by simp; omega
  have hd' : decide (200 < y.length) = true := by simp; omega
  clear hs hf1 hv
  go_enter Tryz.func16, Tryz.ntmps16
  go_upto_region 1 with fail
  rw [← hw0]
  clear hw0
  go_wp2_with fail
  refine (HSM.out _).mono ?_
  rintro e u0 ⟨rfl, hb⟩
  have E0 := hidE (J0.out.next hb)
  clear hb J0
  obtain ⟨f0, f1, f2c, f3⟩ := E0.out.j.c
  obtain ⟨s0, s1⟩ := E0.out.c
  go_wp2_with fail
  refine (HF1.out _).mono ?_
  rintro e u1 ⟨rfl, hb⟩
  have E1 := hidE (E0.out.next hb)
  clear hb E0
  obtain ⟨f0, f1, f2c, f3⟩ := E1.out.j.c
  obtain ⟨s0, s1⟩ := E1.out.c
  go_wp2_with fail
  refine (HAL.out _).mono ?_
  rintro e u9 ⟨rfl, hb⟩
  have E9 := hidE (E1.out.next hb)
  clear hb E1
  go_wp2_with fail
  go_ret
  exact ⟨by simp, E9.out.j.b⟩
 have hd : decide ((y.length : Int) > 200) = false := by simp; omega
 have hd' : decide (200 < y.length) = false := by simp; omega
 clear hs hf1 hv
 go_enter Tryz.func16, Tryz.ntmps16
 go_upto_region 1 with fail
 rw [← hw0]
 clear hw0
 go_wp2_with fail
 refine (HSM.out _).mono ?_
 rintro e w1 ⟨rfl, hb⟩
 have J1 := hidE (J0.out.next hb)
 clear hb J0 f0 f1 f2c f3 s0 s1 HSM
 obtain ⟨f0, f1, f2c, f3⟩ := J1.out.j.c
 obtain ⟨s0, s1⟩ := J1.out.c
 go_wp2_with fail
 refine (HF1.out _).mono ?_
 rintro e w2 ⟨rfl, hb⟩
 have J2 := hidE (J1.out.next hb)
 clear hb J1 f0 f1 f2c f3 s0 s1 HF1
 obtain ⟨f0, f1, f2c, f3⟩ := J2.out.j.c
 obtain ⟨s0, s1⟩ := J2.out.c
 go_wp2_with fail
 refine (HBO.out _ J2.out).mono ?_
 rintro e w4 ⟨hp, hb⟩
 obtain ⟨lo, hi, er, o2, o3, o4, o5, n2, n3, n4, n5, c2, c3, c4, c5, rfl, hx0, _⟩ := hp.look
 have HX0 := hidE hx0
 have J4 := hidE (J2.out.next hb)
 clear hb hp hx0 J2 HBO f0 f1 f2c f3 s0 s1 hd hd'
 go_upto_region 4 with fail
 obtain ⟨w5, hw5⟩ : ∃ W, W = w4.alloc (.cells #[.int .i64 lo, .int .i64 hi, .slice o2 n2 c2, .slice o3 n3 c3, .slice o4 n4 c4, .slice o5 n5 c5] 76) := ⟨_, rfl⟩
 rw [← hw5]
 have J5 := hidE (show PJ w x F N a cap bs a3 y w5 by rw [hw5]; exact J4.out.alloc _)
 have Q5 := hidE (show Kb [(w4.heap.size, .cells #[.int .i64 lo, .int .i64 hi, .slice o2 n2 c2, .slice o3 n3 c3, .slice o4 n4 c4, .slice o5 n5 c5] 76)] w5 by rw [hw5]; exact Kb.alloc (L := []) trivial)
 obtain ⟨gX, hgX⟩ : ∃ g, w4.heap.size = g := ⟨_, rfl⟩
 rw [hgX] at Q5 ⊢
 clear hw5 hgX J4
 by_cases hz : er = 0
 rotate_left
 ·have hzb : (er != 0) = true := by simpa using hz
  clear hz
  go_wp2_with fail
  refine (HAL.out _).mono ?_
  rintro e u9 ⟨rfl, hb⟩
  have E9 := hidE (J5.out.next hb)
  clear hb
  go_wp2_with fail
  go_ret
  exact ⟨by simp, E9.out.j.b⟩
 subst hz
 obtain ⟨hfit, hcons, s, r, hs, hr, hlo, hhi⟩ := HX0.out rfl
 have HFIT := hidE hfit
 have HCONS := hidE hcons
 have HS := hidE hs
 have HR := hidE hr
 obtain ⟨g1, g2, g3, g4, g5, g6⟩ := area_all y hfit
 rw [g5] at HPI
 have HAP := hidE (fun (k : Nat) (hk : k < (piecesP (F.par i)).length) => area_piece y hfit hk)
 have HSAY := hidE (fun (hk : (keptE N bs y).2.1 = true) => surely_says (least := 0) HRUN.out hfit hcons hk)
 have HSUC := hidE (fun (z : List Int) (k : Nat) (hk : k < (piecesP (F.par i)).length) => pieceSum_succ z g6 (k := k) (by rw [piecesP, piecesTo_len] at hk; exact hk))
 have HALL := hidE (fun (z : List Int) => show pieceSum F z (F.par i) (piecesP (F.par i)).length = formP (weightsOf F (F.par i)) z by rw [← pieceSum_all z g6, piecesP, piecesTo_len])
 have HZER := hidE (fun (z : List Int) => pieceSum_zero F z (F.par i))
 have HPE := hidE (fun (k : Nat) (hk : k < (piecesP (F.par i)).length) f2 R2 g2 S2 (h2 : RunsOk (oneF F (pieceP (F.par i) k)) N bs 0 f2 R2 g2 S2) t u ht hu => piece_ends (t := t) (u := u) HRUN.out hfit hcons hk h2 hs hr ht hu)
 have HWH := hidE (show -s.n = formP (weightsOf F (F.par i)) s.y ∧ r.n = formP (weightsOf F (F.par i)) r.y from by
  obtain ⟨e1, e2⟩ := (HRUN.out hfit hcons).lk s hs
  obtain ⟨e3, e4⟩ := (HRUN.out hfit hcons).ho r hr
  rw [form_neg] at e2
  exact ⟨by omega, e4⟩)
 have HPF := hidE (fun (k : Nat) (hk : k < (piecesP (F.par i)).length) => piece_fit hfit hk)
 have HNM := hidE (show ∃ n, ∃ hn : n < F.prs.length, ∀ k, (pieceP (F.par i) k).name = F.prs[n].name from by
  obtain ⟨_, _, _, h4⟩ := fit0 hfit
  obtain ⟨_, n, _, hn, hpar⟩ := fielded_one h4
  exact ⟨n, hn, fun k => by rw [hpar]; rfl⟩)
 have HGT := hidE (fun (k : Nat) (hk : k < (piecesP (F.par i)).length) => show (piecesP (F.par i))[k] = pieceP (F.par i) k by simp [piecesP, piecesTo])
 obtain ⟨PL, hPL⟩ : ∃ z, piecesP (F.par i) = z := ⟨_, rfl⟩
 rw [hPL] at HPI HAP HSUC HALL HPE HPF HGT g1 g3 g4
 obtain ⟨r1, hr1⟩ : ∃ z, (area2E F i y).1 = z := ⟨_, rfl⟩
 obtain ⟨r2, hr2⟩ : ∃ z, (area2E F i y).2 = z := ⟨_, rfl⟩
 rw [hr1, hr2] at HAR HSAY
 rw [hr1] at g1
 rw [hr2] at HAP
 obtain ⟨k1, hk1⟩ : ∃ z, (keptE N bs y).1 = z := ⟨_, rfl⟩
 obtain ⟨k2, hk2⟩ : ∃ z, (keptE N bs y).2.1 = z := ⟨_, rfl⟩
 obtain ⟨k3, hk3⟩ : ∃ z, (keptE N bs y).2.2 = z := ⟨_, rfl⟩
 rw [hk1, hk2, hk3] at HKE
 rw [hk2] at HSAY
 have HSA2 := hidE (fun (hk : k2 = true) => show lo ≤ r1 ∧ r1 ≤ hi from by
  obtain ⟨_, _, p3, p4, _⟩ := HSAY.out hk
  have := p3 s hs
  have := p4 r hr
  omega)
 obtain ⟨sp, hsp⟩ : ∃ z, sumPc F i y = z := ⟨_, rfl⟩
 rw [hsp] at g1 g2 HAP
 have HG1 := hidE g1
 have HG2 := hidE g2
 have HLO := hidE hlo
 have HHI := hidE hhi
 have hp0 : ((PL.length : Int) == 0) = false := by rw [beq_eq_false_iff_ne]; omega
 obtain ⟨K, hK⟩ : ∃ K, PL.length = K := ⟨_, rfl⟩
 have HKK := hidE hK
 rw [hK] at g3 hp0
 clear hfit hcons hs hr hlo hhi g1 g2 g4 g5 g6 hPL hr1 hr2 hk1 hk2 hk3 hsp HSAY HX0 hK
 obtain ⟨f0, f1, f2c, f3⟩ := J5.out.j.c
 go_wp2_with fail
 refine (HPI.out _ J5.out).mono ?_
 rintro e w6 ⟨⟨v1, rfl, ho1⟩, hb⟩
 obtain ⟨oP, cP, rfl, hpp⟩ := pars_cap ho1
 have P6 := hidE hpp
 have J6 := hidE (J5.out.next hb)
 have Q6 := hidE (Q5.out.next hb)
 clear hb ho1 hpp J5 Q5 HPI f0 f1 f2c f3
 rw [HKK.out]
 obtain ⟨f0, f1, f2c, f3⟩ := J6.out.j.c
 go_wp2_with fail
 refine (HAR.out _ J6.out).mono ?_
 rintro e w7 ⟨rfl, hb⟩
 have J7 := hidE (J6.out.next hb)
 have Q7 := hidE (Q6.out.next hb)
 have P7 := hidE (P6.out.below hb (Nat.le_refl _))
 clear hb J6 Q6 P6 HAR f0 f1 f2c f3
 obtain ⟨s0, s1⟩ := J7.out.c
 go_wp2_with fail
 refine (HKE.out _ J7.out).mono ?_
 rintro e w8 ⟨rfl, hb⟩
 have J8 := hidE (J7.out.next hb)
 have Q8 := hidE (Q7.out.next hb)
 have P8 := hidE (P7.out.below hb (Nat.le_refl _))
 clear hb J7 Q7 P7 HKE s0 s1
 go_upto_region 9 with fail
 go_cut [101] (fun t wx => t = .bool false ∧ wx = w8)
 case first =>
  have x0 := ce (i := 0) Q8.out.1 rfl
  have x1 := ce (i := 1) Q8.out.1 rfl
  by_cases q4 : r2 = 0
  ·subst q4
   by_cases q3 : k3 = 0
   ·subst q3
    cases k2 with
    | false =>
      go_wp2_with fail
      go_meet
      exact ⟨rfl, rfl⟩
    | true =>
      have hsa := HSA2.out rfl
      have d1 : decide (r1 < lo) = false := by simp; omega
      have d2 : decide (r1 > hi) = false := by simp; omega
      have d2' : decide (hi < r1) = false := by simp; omega
      clear hsa
      go_wp2_with fail
      go_meet
      try simp
   ·have q5 : (k3 == 0) = false := by simpa using q3
    clear q3
    go_wp2_with fail
    go_meet
    exact ⟨rfl, rfl⟩
  ·have q5 : (r2 == 0) = false := by simpa using q4
   clear q4
   go_wp2_with fail
   go_meet
   exact ⟨rfl, rfl⟩
 case rest =>
 obtain ⟨rfl, hwc⟩ := hcut
 obtain ⟨w9, rfl⟩ : ∃ z : World, z = wc := ⟨wc, rfl⟩
 rw [← hwc] at J8 Q8 P8
 clear hwc hp0 HSA2
 go_wp2_with fail
 go_loopw [18, 19, 20, 104] (fun su lw hh ix wr => ∃ (k : Nat) (A B : Int), k ≤ K ∧ su = .int .i64 (sp k) ∧ lw = .int .i64 A ∧ hh = .int .i64 B ∧ ix = .int .i64 k ∧ Hid (A ≤ pieceSum F s.y (F.par i) k ∧ pieceSum F r.y (F.par i) k ≤ B) ∧ Hid ((-(k : Int) * 100000000000000000 ≤ A ∧ A ≤ (k : Int) * 100000000000000000) ∧ (-(k : Int) * 100000000000000000 ≤ B ∧ B ≤ (k : Int) * 100000000000000000) ∧ -(k : Int) * 19360000000000000 ≤ sp k ∧ sp k ≤ (k : Int) * 19360000000000000) ∧ Hid (PJ w x F N a cap bs a3 y wr) ∧ Hid (Kb [(gX, .cells #[.int .i64 lo, .int .i64 hi, .slice o2 n2 c2, .slice o3 n3 c3, .slice o4 n4 c4, .slice o5 n5 c5] 76)] wr) ∧ Hid (RecsAt 4 Par.cells wr oP PL)) (fun _ _ _ ix _ => K - (intOf ix).toNat)
 case atStart => exact ⟨0, 0, 0, Nat.zero_le _, by rw [HG2.out], rfl, rfl, rfl, hidE ⟨by rw [HZER.out]; exact Int.le_refl _, by rw [HZER.out]; exact Int.le_refl _⟩, hidE ⟨by simp, by simp, by rw [HG2.out]; simp⟩, J8, Q8, P8⟩
 case round =>
  obtain ⟨k, A, B, hk, rfl, rfl, rfl, rfl, HAB, HBD, HJ, HQ, HP⟩ := hrel
  obtain ⟨wx, rfl⟩ : ∃ z : World, z = wr := ⟨wr, rfl⟩
  by_cases hlt : k < K
  ·have hkl : k < PL.length := by rw [HKK.out]; exact hlt
   obtain ⟨bP, qP, rfl, hbP, hcP⟩ := RecsAt.at HP.out hkl
   have hgt := HGT.out k hkl
   rw [hgt] at hcP
   have z0 := hcP 0 (by omega)
   have z1 := hcP 1 (by omega)
   have z2 := hcP 2 (by omega)
   have z3 := hcP 3 (by omega)
   simp only [Par.cells, List.getElem?_cons_zero, List.getElem?_cons_succ, Nat.add_zero] at z0 z1 z2 z3
   obtain ⟨e1, e2, e3, e4⟩ := HAP.out k hkl
   obtain ⟨c1, c2', c3', c4'⟩ := HPF.out k hkl
   obtain ⟨nf, hnf, hnm⟩ := HNM.out
   obtain ⟨f2, R2, g2, S2, hrun2⟩ := runs_ex (oneF F (pieceP (F.par i) k)) N bs 0
   have hpe := fun t u ht hu => HPE.out k hkl f2 R2 g2 S2 hrun2 t u ht hu
   have hsu1 := HSUC.out s.y k hkl
   have hsu2 := HSUC.out r.y k hkl
   have hnk := hnm k
   obtain ⟨q, hq⟩ : ∃ z, pieceP (F.par i) k = z := ⟨_, rfl⟩
   rw [hq] at z0 z1 z2 z3 e1 e2 e3 e4 c2' c4' hrun2 hpe hsu1 hsu2 hnk
   have hqi : i64ok q.south ∧ i64ok q.wst ∧ i64ok q.est := by
    obtain ⟨a1, a2, a3, a4, a5⟩ := c4'
    have := HJ.out.j.fld.ls
    have := HJ.out.j.fld.ll
    exact ⟨⟨by omega, by omega⟩, ⟨by omega, by omega⟩, ⟨by omega, by omega⟩⟩
   have HLT := hidE hlt
   have HE := hidE (show sp (k + 1) = sp k + (area2E (oneF F q) 0 y).1 from e2)
   have HSB := hidE (And.intro e3 e4)
   have HHP := hidE hpe
   have HS1 := hidE hsu1
   have HS2 := hidE hsu2
   have HC2 := hidE c2'
   have HQI := hidE hqi
   have HNF := hidE hnk
   have HRU := hidE hrun2
   have HE1 := hidE e1
   clear hgt hcP e1 e2 e3 e4 c1 c2' c3' c4' hnm hrun2 hpe hsu1 hsu2 hnk hq hqi
   obtain ⟨qn, qs, qw, qe⟩ := q
   dsimp only at z0 z1 z2 z3
   go_upto_region 15 with fail
   obtain ⟨wa, hwa⟩ : ∃ W, W = wx.alloc (.cells #[.string qn, .int .i64 qs, .int .i64 qw, .int .i64 qe] 53) := ⟨_, rfl⟩
   rw [← hwa]
   have ba : Below wx.heap.size wx wa := by rw [hwa]; exact (Below.refl _ _).alloc (Nat.le_refl _) _
   have QA := hidE (show Kb [(wx.heap.size, .cells #[.string qn, .int .i64 qs, .int .i64 qw, .int .i64 qe] 53)] wa by rw [hwa]; exact Kb.alloc (L := []) trivial)
   have JA := hidE (HJ.out.next ba)
   have BA := hidE ba
   obtain ⟨gP, hgP⟩ : ∃ g, wx.heap.size = g := ⟨_, rfl⟩
   have HGP := hidE hgP
   rw [hgP] at QA ⊢
   clear hwa ba z0 z1 z2 z3 hgP
   obtain ⟨f0, f1, f2c, f3⟩ := JA.out.j.c
   go_upto_region 16 with fail
   obtain ⟨wb, hwb⟩ : ∃ W, W = wa.alloc (.cells #[.slice x.aS F.sts.length x.cS, .slice x.aL F.lms.length x.cL, .slice x.aP F.prs.length x.cP, .slice x.aV F.vrs.length x.cV] 46) := ⟨_, rfl⟩
   rw [← hwb]
   have QB := hidE (show Kb [(wa.heap.size, .cells #[.slice x.aS F.sts.length x.cS, .slice x.aL F.lms.length x.cL, .slice x.aP F.prs.length x.cP, .slice x.aV F.vrs.length x.cV] 46), (gP, .cells #[.string qn, .int .i64 qs, .int .i64 qw, .int .i64 qe] 53)] wb by rw [hwb]; exact Kb.alloc QA.out)
   have BB := hidE (show Below wx.heap.size wx wb by rw [hwb]; exact BA.out.alloc BA.out.size _)
   obtain ⟨gO, hgO⟩ : ∃ g, wa.heap.size = g := ⟨_, rfl⟩
   have HGO := hidE (show wx.heap.size ≤ gO by have := BA.out.size; omega)
   rw [hgO] at QB ⊢
   clear hwb hgO QA JA BA f0 f1 f2c f3
   have p0 := ce (i := 0) QB.out.2.1 rfl
   have p1 := ce (i := 1) QB.out.2.1 rfl
   have p2 := ce (i := 2) QB.out.2.1 rfl
   have p3 := ce (i := 3) QB.out.2.1 rfl
   have QC := hidE (Kb.alloc (o := .cells #[.string qn, .int .i64 qs, .int .i64 qw, .int .i64 qe] 53) QB.out)
   have o2 := ce (i := 2) QC.out.2.1 rfl
   have of2 : (wb.alloc (.cells #[.string qn, .int .i64 qs, .int .i64 qw, .int .i64 qe] 53)).frozen? ⟨gO, 2, none⟩ = false := frozen_of_row _ _ _ _ _ QC.out.2.1
   go_upto_region 17 with fail
   obtain ⟨wd, hwd⟩ : ∃ W, W = (wb.alloc (.cells #[.string qn, .int .i64 qs, .int .i64 qw, .int .i64 qe] 53)).setCell ⟨gO, 2, none⟩ (.slice (some ⟨wb.heap.size, 0, none⟩) 1 1) := ⟨_, rfl⟩
   rw [← hwd]
   have bd : Below wx.heap.size wx wd := by rw [hwd]; exact (BB.out.alloc BB.out.size _).setCell HGO.out _
   have QD := hidE (show wd.heap[gO]? = some (.cells #[.slice x.aS F.sts.length x.cS, .slice x.aL F.lms.length x.cL, .slice (some ⟨wb.heap.size, 0, none⟩) 1 1, .slice x.aV F.vrs.length x.cV] 46 (0,0)) ∧ wd.heap[wb.heap.size]? = some (.cells #[.string qn, .int .i64 qs, .int .i64 qw, .int .i64 qe] 53 (0,0)) from by
    have hne : wb.heap.size ≠ gO := by have := lt_of_block QB.out.1; omega
    rw [hwd]; exact ⟨heap_setCell_same _ _ 2 _ _ _ QC.out.2.1, (heap_setCell_other _ _ _ _ hne).trans QC.out.1⟩)
   obtain ⟨gB, hgB⟩ : ∃ g, wb.heap.size = g := ⟨_, rfl⟩
   rw [hgB] at QD ⊢
   have JD := hidE (HJ.out.next bd)
   have QX := hidE (HQ.out.next bd)
   have PD := hidE (HP.out.below bd (Nat.le_refl _))
   clear hwd hgB QB QC BB HGO p0 p1 p2 p3 o2 of2 bd HJ HQ HP HGP
   have hfo := FldAt.one (q := ⟨qn, qs, qw, qe⟩) JD.out.j.fld hnf HNF.out QD.out.2 HQI.out
   have HA2 := hidE (show Calls Tryz.prog 35 #[.agg #[.slice x.aS F.sts.length x.cS, .slice x.aL F.lms.length x.cL, .slice (some ⟨gB, 0, none⟩) 1 1, .slice x.aV F.vrs.length x.cV], .int .i64 0, .slice a3 y.length cap3] wd _ from area2E_any wd ⟨x.aS, x.cS, x.aL, x.cL, some ⟨gB, 0, none⟩, 1, x.aV, x.cV⟩ (oneF F ⟨qn, qs, qw, qe⟩) 0 a3 cap3 y hy hfo JD.out.j.ints)
   have HB2 := hidE (fun (W : World) (hb : Below wd.heap.size wd W) => show Calls Tryz.prog 57 #[.agg #[.slice x.aS F.sts.length x.cS, .slice x.aL F.lms.length x.cL, .slice (some ⟨gB, 0, none⟩) 1 1, .slice x.aV F.vrs.length x.cV], .agg #[.int .i64 N, .slice a bs.length cap], .int .i64 0] W _ from bounds_any W ⟨x.aS, x.cS, x.aL, x.cL, some ⟨gB, 0, none⟩, 1, x.aV, x.cV⟩ (oneF F ⟨qn, qs, qw, qe⟩) N a cap bs 0 f2 R2 g2 S2 (hfo.below hb) HN.out hl (JD.out.b1.below hb (Nat.le_refl _)) (fun p q => HRU.out.run p q))
   clear hfo
   obtain ⟨m1, hm1⟩ : ∃ z, (area2E (oneF F ⟨qn, qs, qw, qe⟩) 0 y).1 = z := ⟨_, rfl⟩
   rw [HE1.out, hm1] at HA2
   rw [hm1] at HE HSB
   clear hm1
   have e0 := ce (i := 0) QD.out.1 rfl
   have e1 := ce (i := 1) QD.out.1 rfl
   have e2 := ce (i := 2) QD.out.1 rfl
   have e3 := ce (i := 3) QD.out.1 rfl
   go_wp2_with fail
   refine HA2.out.mono ?_
   rintro e we ⟨rfl, hb⟩
   have JE := hidE (JD.out.next hb)
   have QE := hidE (QX.out.next hb)
   have PE := hidE (PD.out.below hb (Nat.le_refl _))
   have OE := hidE (blk_below hb (lt_of_block QD.out.1) QD.out.1)
   have HB3 := hidE (HB2.out we hb)
   clear hb e0 e1 e2 e3 JD QX PD QD HA2 HB2
   have e0 := ce (i := 0) OE.out rfl
   have e1 := ce (i := 1) OE.out rfl
   have e2 := ce (i := 2) OE.out rfl
   have e3 := ce (i := 3) OE.out rfl
   obtain ⟨s0, s1⟩ := JE.out.c
   go_wp2_with fail
   refine HB3.out.mono ?_
   rintro e wf ⟨hp, hb⟩
   obtain ⟨lo2, hi2, er2, p2, p3, p4, p5, m2, m3, m4, m5, d2, d3, d4, d5, rfl, hcase⟩ := hp.look2 HC2.out HCONS.out
   have JF := hidE (JE.out.next hb)
   have QF := hidE (QE.out.next hb)
   have PF := hidE (PE.out.below hb (Nat.le_refl _))
   have HCA := hidE hcase
   clear hb hp hcase JE QE PE OE HB3 e0 e1 e2 e3 s0 s1
   go_upto_region 19 with fail
   obtain ⟨wg, hwg⟩ : ∃ W, W = wf.alloc (.cells #[.int .i64 lo2, .int .i64 hi2, .slice p2 m2 d2, .slice p3 m3 d3, .slice p4 m4 d4, .slice p5 m5 d5] 76) := ⟨_, rfl⟩
   rw [← hwg]
   have bg : Below wf.heap.size wf wg := by rw [hwg]; exact (Below.refl _ _).alloc (Nat.le_refl _) _
   have QG := hidE (show wg.heap[wf.heap.size]? = some (.cells #[.int .i64 lo2, .int .i64 hi2, .slice p2 m2 d2, .slice p3 m3 d3, .slice p4 m4 d4, .slice p5 m5 d5] 76 (0,0)) by rw [hwg]; exact heap_alloc_new _ _)
   obtain ⟨gZ, hgZ⟩ : ∃ g, wf.heap.size = g := ⟨_, rfl⟩
   have JG := hidE (JF.out.next bg)
   have QY := hidE (QF.out.next bg)
   have PG := hidE (PF.out.below bg (Nat.le_refl _))
   rw [hgZ] at QG ⊢
   clear hwg bg hgZ JF QF PF
   rcases HCA.out with ⟨rfl, t, u, ht, hu, hl2, hh2⟩ | rfl
   ·obtain ⟨v1, v2, v3, v4, v5, v6⟩ := HHP.out t u ht hu
    have h1 := HS1.out
    have h2 := HS2.out
    have h3 := HE.out
    have h4 := HSB.out
    have h5 := HAB.out
    have h6 := HBD.out
    obtain ⟨fq1, hfq1⟩ : ∃ z, formP (weightsOf F ⟨qn, qs, qw, qe⟩) s.y = z := ⟨_, rfl⟩
    obtain ⟨fq2, hfq2⟩ : ∃ z, formP (weightsOf F ⟨qn, qs, qw, qe⟩) r.y = z := ⟨_, rfl⟩
    rw [hfq1] at v1 h1
    rw [hfq2] at v2 h2
    have w1 : IntKind.i64.wrap (sp k + m1) = sp k + m1 := IntWalk.i64_in _ (by omega)
    have w2 : IntKind.i64.wrap (A + lo2) = A + lo2 := IntWalk.i64_in _ (by omega)
    have w3 : IntKind.i64.wrap (B + hi2) = B + hi2 := IntWalk.i64_in _ (by omega)
    have HR1 := hidE (show A + lo2 ≤ pieceSum F s.y (F.par i) (k + 1) ∧ pieceSum F r.y (F.par i) (k + 1) ≤ B + hi2 by rw [h1, h2]; omega)
    have HR2 := hidE (show (-((k + 1 : Nat) : Int) * 100000000000000000 ≤ A + lo2 ∧ A + lo2 ≤ ((k + 1 : Nat) : Int) * 100000000000000000) ∧ (-((k + 1 : Nat) : Int) * 100000000000000000 ≤ B + hi2 ∧ B + hi2 ≤ ((k + 1 : Nat) : Int) * 100000000000000000) ∧ -((k + 1 : Nat) : Int) * 19360000000000000 ≤ sp (k + 1) ∧ sp (k + 1) ≤ ((k + 1 : Nat) : Int) * 19360000000000000 by rw [h3]; omega)
    have z0 := ce (i := 0) QG.out rfl
    have z1 := ce (i := 1) QG.out rfl
    have hrr : (r2 != r2) = false := by simp
    clear v1 v2 v3 v4 v5 v6 h1 h2 h3 h4 h5 h6 hfq1 hfq2 ht hu hl2 hh2
    go_wp2_with fail
    go_quiet (fail)
    go_wp2_with fail
    go_roundw
    case rel => exact ⟨k + 1, A + lo2, B + hi2, HLT.out, by rw [HE.out], rfl, rfl, by go_num, HR1, HR2, hidE (JG.out.next (below_drewN' _ _)), hidE QY.out.drewN, hidE (PG.out.below (below_drewN' _ _) (Nat.le_refl _))⟩
    case measure => have := HLT.out; simp [intOf]; omega
   ·go_wp2_with fail
    refine (HAL.out _).mono ?_
    rintro e u9 ⟨rfl, hb⟩
    have E9 := hidE (JG.out.next hb)
    clear hb
    go_wp2_with fail
    go_ret
    exact ⟨by simp, E9.out.j.b⟩
  ·obtain rfl : k = K := by omega
   have hab := HAB.out
   have g1 := HG1.out
   rw [HKK.out] at g1
   have h1 := HALL.out s.y
   have h2 := HALL.out r.y
   rw [HKK.out] at h1 h2
   obtain ⟨h3, h4⟩ := HWH.out
   have hlo := HLO.out
   have hhi := HHI.out
   rw [h1, h2, ← h3, ← h4] at hab
   have d1 : decide (A ≤ lo) = true := by simp; omega
   have d2 : decide (B ≥ hi) = true := by simp; omega
   have d2' : decide (hi ≤ B) = true := by simp; omega
   rw [g1]
   clear hab g1 h1 h2 h3 h4 hlo hhi
   go_wp2_with fail
   refine (HAL.out _).mono ?_
   rintro e u9 ⟨rfl, hb⟩
   have E9 := hidE (HJ.out.next hb)
   have Q9 := hidE (HQ.out.next hb)
   clear hb
   have x0 := ce (i := 0) Q9.out.1 rfl
   have x1 := ce (i := 1) Q9.out.1 rfl
   go_wp2_with fail
   go_ret
   exact ⟨by simp, E9.out.j.b⟩
end Go.Proofs.YthjmkmjojlfejaaGreat
namespace Go.Proofs.YthjmkmjojlfejaaGreat
open Go Go.ChangeShapes Go.WideShapes Go.ChangeAt Go.RowKit Go.Joins Go.Deep
theorem argOk24 : ArgOk 24 := ⟨by kernel_rfl, of_decide_eq_true (by kernel_rfl)⟩
theorem argOk27 : ArgOk 25 := ⟨by kernel_rfl, of_decide_eq_true (by kernel_rfl)⟩
section
variable {H : Type} {enc : TypeId × Value → H}
theorem bounds_trod {W : World} {n : Nat} {cs : List Value} {x : DataW H × List MemPlace} (h : DataW.trod enc Tryz.prog W 0 (fun _ => true) true n 22 cs = some x) :
 ∃ (a : Option Addr) (cap : Nat) (l : List Bd), cs = [.slice a l.length cap] ∧ BoundsAt W a l ∧ SliceOk a l.length cap ∧ l.length ≤ 9223372036854775807 ∧ ∀ b ∈ l, b.ok := by
 have c44 : Tryz.prog.cellsOf 81 = 4 := by kernel_rfl
 have c3 : Tryz.prog.cellsOf 3 = 1 := by kernel_rfl
 rcases open_slice Tryz.underlying22 h with ⟨h1, _⟩ | ⟨a, len, cap, m, n', D, Pl, hcs, _, hl, hm, hmm, _, hx⟩
 ·exact ⟨none, 0, [], h1, .inl rfl, fun _ => ⟨rfl, rfl⟩, by simp, by simp⟩
 ·have hmm' : m = cap := hmm
  rw [c44] at hx
  obtain ⟨l, hll, hlp⟩ := list_of (p := fun i (b : Bd) => (W.cell? ((a.add (i * 4)).add 0) = some (.int .i64 b.src) ∧ W.cell? ((a.add (i * 4)).add 1) = some (.int .i64 b.dst) ∧ W.cell? ((a.add (i * 4)).add 2) = some (.int .i64 b.most) ∧ W.cell? ((a.add (i * 4)).add 3) = some (.int .i64 b.rcd)) ∧ b.ok) len (fun i hi => by
   obtain ⟨cs', hc, ht⟩ := hx i (by omega)
   obtain ⟨_, hlen, hat⟩ := World.cells?_some hc
   match cs', hlen with
   | [u0, u1, u2, u3], _ =>
     obtain ⟨ys, n2, _, _, _, hyl, hf⟩ := DataW.trod_struct Tryz.underlying81 ht
     match ys, hyl with
     | [y0, y1, y2, y3], _ =>
       have f0 : DataW.trod enc Tryz.prog W 0 (fun _ => true) true n2 3 (([u0, u1, u2, u3].drop 0).take (Tryz.prog.cellsOf 3)) = some y0 := hf 0 _ rfl
       have f1 : DataW.trod enc Tryz.prog W 0 (fun _ => true) true n2 3 (([u0, u1, u2, u3].drop 1).take (Tryz.prog.cellsOf 3)) = some y1 := hf 1 _ rfl
       have f2 : DataW.trod enc Tryz.prog W 0 (fun _ => true) true n2 3 (([u0, u1, u2, u3].drop 2).take (Tryz.prog.cellsOf 3)) = some y2 := hf 2 _ rfl
       have f3 : DataW.trod enc Tryz.prog W 0 (fun _ => true) true n2 3 (([u0, u1, u2, u3].drop 3).take (Tryz.prog.cellsOf 3)) = some y3 := hf 3 _ rfl
       rw [c3] at f0 f1 f2 f3
       obtain ⟨k0, e0, o0⟩ := int_cell (v := u0) (y := y0) f0
       obtain ⟨k1, e1, o1⟩ := int_cell (v := u1) (y := y1) f1
       obtain ⟨k2, e2, o2⟩ := int_cell (v := u2) (y := y2) f2
       obtain ⟨k3, e3, o3⟩ := int_cell (v := u3) (y := y3) f3
       subst e0 e1 e2 e3
       exact ⟨⟨k0, k1, k2, k3⟩, ⟨hat 0 (by omega), hat 1 (by omega), hat 2 (by omega), hat 3 (by omega)⟩, o0, o1, o2, o3⟩)
  have hm2 : cap ≤ 9223372036854775807 := hm
  refine ⟨some a, cap, l, by rw [hcs, hll], ?_, (fun e => by cases e), by omega, fun x hx => ?_⟩
  ·by_cases h0 : len = 0
   ·exact .inl (List.length_eq_zero_iff.1 (by omega))
   ·have z := (hlp 0 (by omega)).1.1
    have ha : a.spot = none := by
     have := (cell_plain z).1
     unfold Addr.add at this
     simpa using this
    obtain ⟨b, off, sp⟩ := a
    simp only at ha
    subst ha
    simp only [add_plain] at hlp
    refine .inr ⟨b, off, rfl, ?_, fun i hi => (hlp i hi).1⟩
    exact (cell_plain (hlp 0 (by omega)).1.1).2
  ·obtain ⟨i, hi, rfl⟩ := List.getElem_of_mem hx
   exact (hlp i hi).2
set_option maxRecDepth 100000 in
theorem open_list {b0 : Nat} {W : World} {v : Value} {d : DataW H} {p : List MemPlace} (hv : Value.okWide Tryz.prog W .any b0 25 v) (h : DataW.Trod enc Tryz.prog W 0 (fun _ => true) true 25 v d p) :
 ∃ (a : Option Addr) (cap : Nat) (l : List Int), v = .slice a l.length cap ∧ IntsAt W a l ∧ SliceOk a l.length cap ∧ l.length ≤ 9223372036854775807 ∧ ∀ x ∈ l, i64ok x := by
 obtain ⟨n, hn⟩ := h
 obtain ⟨a, cap, l, h1, h2⟩ := ints_trod hn
 have hc : v = .slice a l.length cap := by
  have hs := okWide_slice Tryz.underlying25 hv
  obtain ⟨a', n', c', rfl⟩ := hs
  simpa [Value.cells] using h1
 exact ⟨a, cap, l, hc, h2⟩
set_option maxRecDepth 100000 in
theorem open_sys {b0 : Nat} {W : World} {v : Value} {d : DataW H} {p : List MemPlace} (hv : Value.okWide Tryz.prog W .any b0 24 v) (h : DataW.Trod enc Tryz.prog W 0 (fun _ => true) true 24 v d p) :
 ∃ (N : Int) (a : Option Addr) (cap : Nat) (bs : List Bd), v = .agg #[.int .i64 N, .slice a bs.length cap] ∧ i64ok N ∧ BoundsAt W a bs ∧ SliceOk a bs.length cap ∧ bs.length ≤ 9223372036854775807 ∧ ∀ b ∈ bs, b.ok := by
 obtain ⟨v0, v1, y0, y1, n, rfl, _, _, h0, h1⟩ := open_agg2 Tryz.underlying24 (by kernel_rfl) (by kernel_rfl) hv h
 obtain ⟨N, rfl, hN⟩ := int_cell h0
 obtain ⟨a, cap, bs, e, h2⟩ := bounds_trod h1
 exact ⟨N, a, cap, bs, by simpa using e, hN, h2⟩
end
end Go.Proofs.YthjmkmjojlfejaaGreat
