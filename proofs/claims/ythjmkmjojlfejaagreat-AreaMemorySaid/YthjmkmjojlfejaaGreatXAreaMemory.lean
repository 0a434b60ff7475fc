/- What the law AreaMemory needs beyond the base: Pure, PureB, PlB, Sm, Mf2, Mf4, Mf5, Mf6, Mf7, Nh0, Base, Wh, Wk, Wr, Wx, X2, Yd, Du1, Bd1, Bd2, Tk, Me1, Cg1, Cg3, Ef1, Ef4, Me2, Mo1, Al1, Al3, Mm1, Cg5, Lp, Mm2, Fr. No conditions beyond those stated. -/
import Derived.Test.YthjmkmjojlfejaaGreatB01
import Derived.Test.YthjmkmjojlfejaaGreatB02
import Derived.Test.YthjmkmjojlfejaaGreatB03
import Derived.Test.YthjmkmjojlfejaaGreatB11
import Derived.Test.YthjmkmjojlfejaaGreatB10
import Derived.Test.YthjmkmjojlfejaaGreatB12
import Derived.WalkKit
import Derived.Handy
import Derived.RangeFuncRecord
import Derived.Test.YthjmkmjojlfejaaGreatProg
import Derived.Shelf.Abstract
import Derived.Deep.QuietTactic
import Derived.BigQuiet
import Derived.Laws.CopyOwn
import Derived.WalkSmall
import Derived.RangeFuncNested
import Derived.RangeFuncBound
import Derived.RangeFuncCalls
import Derived.RangeFuncLeaves
import Derived.Shelf.RegionOpen
import Derived.OwnWalkIn
import Derived.TacticsInMore
import Derived.LoopNIn
import Derived.LoopIn
import Derived.Maps.AppendAt
import Derived.Deep.Onto
import Derived.OrdersHeld
import Derived.Deep.LoopGhost
import Derived.Deep.WholeRow
import Derived.Deep.OwnRows
import Derived.StillTailTactics
import Derived.Great.Walk
import Derived.Great.BuildSlice
import Derived.WalkMore
import Derived.WalkSpells
import Derived.Deep.DeepCutAuto
import Derived.Deep.MidRow
import Derived.Deep.RegionHeld3
import Derived.Shelf.Small.Bits
import Derived.Shelf.Small.Wraps
import Derived.Shelf.Strconv.Itoa0
import Derived.Shelf.Sort.Plain
import Derived.Shelf.Slices.Turned
import Derived.Ground.Names2Prog
import Derived.Shelf.Slices.CompactI
import Derived.Shelf.Slices.SearchI
import Derived.Shelf.Slices.Cells
import Derived.Shelf.Slices.In.SortNone
import Derived.Lib.OwnBridge
import Derived.Lib.SliceRun
import Derived.Deep.RegionWith
import Derived.Lib.AppendZerosOnto
import Derived.Deep.CutBlock
import Derived.Test.YthjmkmjojlfejaaGreatB13
import Derived.Test.YthjmkmjojlfejaaGreatB09
import Derived.Test.YthjmkmjojlfejaaGreatB08
import Derived.Test.YthjmkmjojlfejaaGreatB05
import Derived.Test.YthjmkmjojlfejaaGreatB04
import Derived.IntWalk
import Derived.Scope
import Derived.Test.YthjmkmjojlfejaaGreatB07
import Derived.Test.YthjmkmjojlfejaaGreatB06
import Derived.Test.YthjmkmjojlfejaaGreatB15
import Derived.Test.YthjmkmjojlfejaaGreatB16
import Derived.Test.YthjmkmjojlfejaaGreatB14
import Derived.Test.YthjmkmjojlfejaaGreatRows
import Derived.ProofKit
import Derived.OpenShut
import Derived.Carry
import Derived.Lib.SmallJoins
import Derived.Deep.Slices
namespace Go.Proofs.YthjmkmjojlfejaaGreat
def Bd.ok (b : Bd) : Prop := i64ok b.src ∧ i64ok b.dst ∧ i64ok b.most ∧ i64ok b.rcd
theorem foldl_relaxC_low {N : Int} (bs : List Bd) : ∀ (c : Nat) (s : List Int × Bool), (∀ b ∈ bs, b.valid N) → LowBy c s.1 → LowBy (c + bs.length) (bs.foldl relaxC s).1 := by
 induction bs with
 | nil => intro c s _ H; exact H
 | cons b bs ih =>
   intro c s hv H
   have := ih (c + 1) (relaxC s b) (fun x hx => hv x (List.mem_cons_of_mem _ hx)) (relaxC_low (hv b (List.mem_cons_self ..)) H)
   rw [show c + 1 + bs.length = c + (b :: bs).length by simp only [List.length_cons]; omega] at this
   exact this
theorem openedGo_low {N : Int} {bs : List Bd} (hv : ∀ b ∈ bs, b.valid N) (r : Nat) : ∀ (c : Nat) (h h' : List Int), LowBy c h → openedGo bs r h = some h' → LowBy (c + r * bs.length) h' := by
 induction r with
 | zero => intro c h h' _ e; simp [openedGo] at e
 | succ r ih =>
   intro c h h' H e
   have H1 : LowBy (c + bs.length) (roundP bs h).1 := foldl_relaxC_low bs c (h, false) hv H
   have hm : (r + 1) * bs.length = r * bs.length + bs.length := Nat.succ_mul _ _
   simp only [openedGo] at e
   split at e
   ·have := ih (c + bs.length) _ h' H1 e
    exact this.mono (by omega)
   ·simp only [Option.some.injEq] at e
    rw [← e]
    exact H1.mono (by omega)
theorem openedP_low {N : Int} {bs : List Bd} {h : List Int} (hv : AllValid N bs) (e : openedP N bs = some h) : LowBy ((N + 1).toNat * bs.length) h := by
 have := openedGo_low hv _ 0 _ _ (lowBy_start 128) e
 simpa using this
theorem sumN_add (f g : Nat → Int) : ∀ n, sumN (fun i => f i + g i) n = sumN f n + sumN g n
 | 0 => rfl
 | n + 1 => by simp only [sumN, sumN_add f g n]; omega
theorem sumN_zero {f : Nat → Int} : ∀ {n : Nat}, (∀ i, i < n → f i = 0) → sumN f n = 0
 | 0, _ => rfl
 | n + 1, h => by simp only [sumN]; rw [sumN_zero fun i hi => h i (by omega), h n (by omega)]; rfl
theorem sumN_le {f g : Nat → Int} : ∀ {n : Nat}, (∀ i, i < n → f i ≤ g i) → sumN f n ≤ sumN g n
 | 0, _ => Int.le_refl _
 | n + 1, h => by have := sumN_le (n := n) fun i hi => h i (by omega); have := h n (by omega); simp only [sumN]; omega
theorem sumN_nonneg {f : Nat → Int} {n : Nat} (h : ∀ i, i < n → 0 ≤ f i) : 0 ≤ sumN f n := by
 have := sumN_le (f := fun _ => 0) h
 rw [sumN_zero (fun _ _ => rfl)] at this
 exact this
theorem sumN_single {g : Int → Int} {d : Int} : ∀ {n : Nat}, 0 ≤ d → d < n → sumN (fun i => if d = (i : Int) then g i else 0) n = g d
 | 0, h0, h1 => by omega
 | n + 1, h0, h1 => by
   simp only [sumN]
   by_cases e : d = n
   ·rw [if_pos e, sumN_zero (fun i hi => if_neg (by omega)), e]; omega
   ·rw [if_neg e, sumN_single h0 (by omega)]; omega
theorem sumN_one {f : Nat → Int} {n k : Nat} (hk : k < n) (h : ∀ i, i < n → 0 ≤ f i) : f k ≤ sumN f n := by
 induction n with
 | zero => omega
 | succ n ih =>
   simp only [sumN]
   by_cases e : k = n
   ·subst e
    have := sumN_nonneg (f := f) (n := k) fun i hi => h i (by omega)
    omega
   ·have := ih (by omega) fun i hi => h i (by omega)
    have := h n (by omega)
    omega
theorem foldA_quiet : ∀ (l : List Arc) (s : Sh × Bool), (∀ a ∈ l, shorter s.1 a = false) → l.foldl relaxA s = s
 | [], _, _ => rfl
 | a :: l, s, h => by
   have e : relaxA s a = s := by unfold relaxA; rw [h a (List.mem_cons_self ..)]; rfl
   rw [List.foldl_cons, e]
   exact foldA_quiet l s fun x hx => h x (List.mem_cons_of_mem _ hx)
def Below1 (N : Nat) (s s' : Sh) : Prop := ∀ v, 0 ≤ v → v < (N : Int) → getK s.k v = true → getK s'.k v = true ∧ getI s'.c v ≤ getI s.c v
theorem Below1.refl (N : Nat) (s : Sh) : Below1 N s s := fun _ _ _ h => ⟨h, Int.le_refl _⟩
theorem Below1.trans {N : Nat} {s t u : Sh} (h1 : Below1 N s t) (h2 : Below1 N t u) : Below1 N s u := fun v a b c => by
 obtain ⟨d, e⟩ := h1 v a b c
 obtain ⟨f, g⟩ := h2 v a b d
 exact ⟨f, Int.le_trans g e⟩
theorem relaxA_below {N : Nat} {A : List Arc} {s : Sh × Bool} (hN : N ≤ 128) (hv : AllValid N (resid A)) (hw : s.1.whole) {a : Arc} (ha : a ∈ A) : Below1 N s.1 (relaxA s a).1 ∧ (relaxA s a).1.whole := by
 unfold relaxA
 cases hs : shorter s.1 a with
 | false => exact ⟨Below1.refl _ _, hw⟩
 | true =>
   simp only [if_true]
   refine ⟨fun v h0 h1 hk => ?_, Sh.upd_whole hw a⟩
   rw [upd_k hw hN (hv _ (mem_resid ha)) h0, upd_c hw hN (hv _ (mem_resid ha)) h0]
   by_cases e : v = a.dst
   ·subst e
    rw [if_pos rfl, if_pos rfl]
    have := shorter_lt hs hk
    exact ⟨rfl, by omega⟩
   ·rw [if_neg e, if_neg e]; exact ⟨hk, Int.le_refl _⟩
theorem relaxA_step {N : Nat} {A : List Arc} {s : Sh × Bool} (hN : N ≤ 128) (hv : AllValid N (resid A)) (hw : s.1.whole) {a : Arc} (ha : a ∈ A) (hk : getK s.1.k a.src = true) :
 getK (relaxA s a).1.k a.dst = true ∧ getI (relaxA s a).1.c a.dst ≤ getI s.1.c a.src + a.cost := by
 have h3 : (0 : Int) ≤ a.dst := (hv _ (mem_resid ha)).2.2.1
 unfold relaxA
 cases hs : shorter s.1 a with
 | false => simpa using not_shorter hs hk
 | true =>
   simp only [if_true]
   rw [upd_k hw hN (hv _ (mem_resid ha)) h3, upd_c hw hN (hv _ (mem_resid ha)) h3]
   simp
theorem foldA_below {N : Nat} {A : List Arc} (hN : N ≤ 128) (hv : AllValid N (resid A)) : ∀ (l : List Arc) (s : Sh × Bool), (∀ a ∈ l, a ∈ A) → s.1.whole → Below1 N s.1 (l.foldl relaxA s).1 ∧ (l.foldl relaxA s).1.whole
 | [], s, _, hw => ⟨Below1.refl _ _, hw⟩
 | a :: l, s, hl, hw => by
   obtain ⟨h1, h2⟩ := relaxA_below hN hv hw (hl a (List.mem_cons_self ..))
   obtain ⟨h3, h4⟩ := foldA_below hN hv l (relaxA s a) (fun x hx => hl x (List.mem_cons_of_mem _ hx)) h2
   exact ⟨h1.trans h3, h4⟩
theorem foldA_step {N : Nat} {A : List Arc} (hN : N ≤ 128) (hv : AllValid N (resid A)) : ∀ (l : List Arc) (s : Sh × Bool), (∀ a ∈ l, a ∈ A) → s.1.whole → ∀ a ∈ l, getK s.1.k a.src = true →
 getK (l.foldl relaxA s).1.k a.dst = true ∧ getI (l.foldl relaxA s).1.c a.dst ≤ getI s.1.c a.src + a.cost
 | [], _, _, _, a, ha, _ => by cases ha
 | x :: l, s, hl, hw, a, ha, hk => by
   rw [List.foldl_cons]
   obtain ⟨h1, h2⟩ := relaxA_below hN hv hw (hl x (List.mem_cons_self ..))
   have hl' : ∀ a ∈ l, a ∈ A := fun y hy => hl y (List.mem_cons_of_mem _ hy)
   rcases List.mem_cons.1 ha with rfl | ha
   ·obtain ⟨g1, g2⟩ := relaxA_step hN hv hw (hl a (List.mem_cons_self ..)) hk
    have hva := hv _ (mem_resid (hl a (List.mem_cons_self ..)))
    obtain ⟨f1, f2⟩ := (foldA_below hN hv l (relaxA s a) hl' h2).1 a.dst hva.2.2.1 hva.2.2.2.1 g1
    exact ⟨f1, by omega⟩
   ·have hva := hv _ (mem_resid (hl' a ha))
    obtain ⟨f1, f2⟩ := h1 a.src hva.1 hva.2.1 hk
    obtain ⟨g1, g2⟩ := foldA_step hN hv l (relaxA s x) hl' h2 a ha f1
    exact ⟨g1, by omega⟩
theorem valid_end {N : Nat} {bs : List Bd} (hv : AllValid N bs) {a b : Int} (h0 : 0 ≤ a) (h1 : a < N) : ∀ {l : List Bd}, Walk a b l → Over bs l → 0 ≤ b ∧ b < N := by
 intro l hw ho
 rcases List.eq_nil_or_concat l with rfl | ⟨p, x, rfl⟩
 ·simp only [Walk] at hw; subst hw; exact ⟨h0, h1⟩
 ·rw [List.concat_eq_append] at hw ho
  obtain ⟨_, rfl⟩ := walk_last hw
  have := hv x (ho x (by simp))
  exact ⟨this.2.2.1, this.2.2.2.1⟩
theorem lowK_round {N : Nat} {A : List Arc} {Sr : Int → Prop} {k : Nat} {s : Sh} (hN : N ≤ 128) (hv : AllValid N (resid A)) (hw : s.whole) (H : LowK N A Sr k s) : LowK N A Sr (k + 1) (passA A s).1 := by
 intro a v l hsr h0 h1 hwk ho hlen
 rcases List.eq_nil_or_concat l with rfl | ⟨p, x, rfl⟩
 ·obtain ⟨g1, g2⟩ := H a v [] hsr h0 h1 hwk ho (by simp)
  obtain ⟨e0, e1⟩ := valid_end hv h0 h1 hwk ho
  obtain ⟨f1, f2⟩ := (foldA_below hN hv A (s, false) (fun _ h => h) hw).1 v e0 e1 g1
  exact ⟨f1, Int.le_trans f2 g2⟩
 ·rw [List.concat_eq_append] at hwk ho hlen ⊢
  obtain ⟨w1, rfl⟩ := walk_last hwk
  obtain ⟨y, hy, hyx⟩ := List.mem_map.1 (ho x (by simp))
  obtain ⟨g1, g2⟩ := H a x.src p hsr h0 h1 w1 ho.left (by simp at hlen; omega)
  subst hyx
  obtain ⟨f1, f2⟩ := foldA_step hN hv A (s, false) (fun _ h => h) hw y hy g1
  refine ⟨f1, ?_⟩
  rw [wsum_append]
  simp only [wsum, Arc.bnd] at *
  show getI (A.foldl relaxA (s, false)).1.c y.dst ≤ _
  omega
theorem lowK_quiet {N : Nat} {A : List Arc} {Sr : Int → Prop} {k : Nat} {s : Sh} (hv : AllValid N (resid A)) (hn : NoNeg (resid A)) (hk : N ≤ k + 1) (HR : ShInv N A Sr s) (HL : LowK N A Sr k s) : ∀ a ∈ A, shorter s a = false := by
 intro b hb
 cases hs : shorter s b with
 | false => rfl
 | true =>
   exfalso
   have hva := hv _ (mem_resid hb)
   obtain ⟨a, l, sx, a0, a1, hw, ho, hsum⟩ := HR.reach b.src hva.1 hva.2.1 (shorter_src hs)
   obtain ⟨l', g1, g2, g3, g4⟩ := walk_short hv hn (l ++ [b.bnd]).length (l := l ++ [b.bnd]) (Nat.le_refl _) a0 a1 (hw.trans ⟨rfl, rfl⟩) (ho.append (Over.one (mem_resid hb)))
   obtain ⟨f1, f2⟩ := HL a b.dst l' sx a0 a1 g1 g2 (by omega)
   have := shorter_lt hs f1
   rw [wsum_append, hsum] at g4
   simp only [wsum, Arc.bnd] at g4
   omega
theorem shortGo_some {N : Nat} {A : List Arc} {Sr : Int → Prop} (hN : N ≤ 128) (hv : AllValid N (resid A)) (hn : NoNeg (resid A)) : ∀ (r k : Nat) (s : Sh), 1 ≤ r → N ≤ k + r → ShInv N A Sr s → LowK N A Sr k s → ∃ s', shortGo A r s = some s'
 | 0, _, _, h1, _, _, _ => by omega
 | r + 1, k, s, _, hk, HR, HL => by
   simp only [shortGo]
   split
   ·rename_i hf
    by_cases hr : r = 0
    ·have := foldA_quiet A (s, false) (lowK_quiet hv hn (by omega) HR HL)
     rw [passA, this] at hf; cases hf
    ·exact shortGo_some hN hv hn r (k + 1) _ (by omega) (by omega) (HR.mid hN hv (pass_mid MidA.start)) (lowK_round hN hv HR.whole HL)
   ·exact ⟨_, rfl⟩
def netFrom (flow : List Int) (v : Int) : Nat → List Bd → Int
 | _, [] => 0
 | i, b :: bs => ((if b.dst = v then flow.getD i 0 else 0) - (if b.src = v then flow.getD i 0 else 0)) + netFrom flow v (i + 1) bs
def netOf (bs : List Bd) (flow : List Int) (v : Int) : Int := netFrom flow v 0 bs
def costFrom (flow : List Int) : Nat → List Bd → Int
 | _, [] => 0
 | i, b :: bs => flow.getD i 0 * b.most + costFrom flow (i + 1) bs
def costOf (bs : List Bd) (flow : List Int) : Int := costFrom flow 0 bs
theorem netFrom_out (flow : List Int) (v : Int) (j : Nat) (x : Int) : ∀ (i : Nat) (bs : List Bd), j < i → netFrom (flow.set j x) v i bs = netFrom flow v i bs
 | _, [], _ => rfl
 | i, b :: bs, h => by
   have e : (flow.set j x).getD i 0 = flow.getD i 0 := by rw [getD_set_at]; exact if_neg (by omega)
   simp only [netFrom]
   rw [netFrom_out flow v j x (i + 1) bs (by omega), e]
theorem netFrom_set (flow : List Int) (v : Int) (j : Nat) (x : Int) (hj : j < flow.length) : ∀ (i : Nat) (bs : List Bd) (h : j - i < bs.length), i ≤ j →
 netFrom (flow.set j x) v i bs = netFrom flow v i bs + ((if bs[j - i].dst = v then x - flow.getD j 0 else 0) - (if bs[j - i].src = v then x - flow.getD j 0 else 0))
 | _, [], h, _ => by simp at h
 | i, b :: bs, h, hij => by
   simp only [netFrom]
   by_cases e : i = j
   ·subst e
    have e2 : (flow.set i x).getD i 0 = x := by rw [getD_set_at]; exact if_pos ⟨rfl, hj⟩
    rw [netFrom_out _ _ _ _ _ _ (by omega), e2]
    simp only [Nat.sub_self, List.getElem_cons_zero]
    repeat' split
    all_goals omega
   ·have h2 : j - i = (j - (i + 1)) + 1 := by omega
    have e2 : (flow.set j x).getD i 0 = flow.getD i 0 := by rw [getD_set_at]; exact if_neg (by omega)
    rw [netFrom_set flow v j x hj (i + 1) bs (by simp at h; omega) (by omega), e2]
    simp only [h2, List.getElem_cons_succ]
    omega
def diffFrom (flow : List Int) (y : Int → Int) : Nat → List Bd → Int
 | _, [] => 0
 | i, b :: bs => flow.getD i 0 * (y b.dst - y b.src) + diffFrom flow y (i + 1) bs
theorem dot_net {N : Nat} (flow : List Int) (y : Int → Int) : ∀ (i : Nat) (bs : List Bd), AllValid N bs → sumN (fun v => y v * netFrom flow v i bs) N = diffFrom flow y i bs
 | _, [], _ => by simp [netFrom, diffFrom, sumN_zero]
 | i, b :: bs, hv => by
   obtain ⟨v1, v2, v3, v4, _⟩ := hv b (List.mem_cons_self ..)
   have ih := dot_net flow y (i + 1) bs fun x hx => hv x (List.mem_cons_of_mem _ hx)
   simp only [diffFrom]
   rw [← ih]
   have e : sumN (fun v => y v * netFrom flow v i (b :: bs)) N = sumN (fun v => ((if b.dst = (v : Int) then y v * flow.getD i 0 else 0) + (if b.src = (v : Int) then y v * -flow.getD i 0 else 0)) + y v * netFrom flow v (i + 1) bs) N := by
    refine sumN_congr fun v _ => ?_
    simp only [netFrom, Int.mul_add]
    congr 1
    repeat' split
    ·rw [Int.sub_self, Int.mul_neg, Int.add_right_neg, Int.mul_zero]
    all_goals simp
   rw [e, sumN_add, sumN_add, sumN_single (g := fun v => y v * flow.getD i 0) v3 v4, sumN_single (g := fun v => y v * -flow.getD i 0) v1 v2]
   rw [Int.mul_sub, Int.mul_neg, Int.mul_comm (y b.dst), Int.mul_comm (y b.src)]
   omega
theorem diff_eq {flow : List Int} {y : Int → Int} : ∀ (i : Nat) (bs : List Bd), (∀ j (h : j < bs.length), flow.getD (i + j) 0 ≠ 0 → y bs[j].dst - y bs[j].src = bs[j].most) → diffFrom flow y i bs = costFrom flow i bs
 | _, [], _ => rfl
 | i, b :: bs, h => by
   have h1 := diff_eq (flow := flow) (y := y) (i + 1) bs fun j hj hne => by
    have := h (j + 1) (by simpa using hj) (by rw [show i + (j + 1) = i + 1 + j from by omega]; exact hne)
    simpa using this
   simp only [diffFrom, costFrom, h1]
   by_cases e : flow.getD i 0 = 0
   ·rw [e]; simp
   ·have := h 0 (by simp) (by simpa using e)
    simp only [List.getElem_cons_zero] at this
    rw [this]
theorem walk_fun {g : Int → Int} {bs : List Bd} (hp : ∀ b ∈ bs, g b.dst ≤ g b.src + b.most) : ∀ {a b : Int} {l : List Bd}, Walk a b l → Over bs l → g b - g a ≤ wsum l
 | a, b, [], hw, _ => by simp only [Walk] at hw; subst hw; simp [wsum]
 | a, b, x :: l, hw, ho => by
   have h1 := walk_fun hp hw.2 ho.tail
   have h2 := hp x (ho x (List.mem_cons_self ..))
   have h3 := hw.1
   subst h3
   simp only [wsum]
   omega
theorem noNeg_of_fun {g : Int → Int} {bs : List Bd} (hp : ∀ b ∈ bs, g b.dst ≤ g b.src + b.most) : NoNeg bs := fun a l hw ho => by have := walk_fun hp hw ho; omega
theorem moveP_at {m : Int} : ∀ (l : List Arc) (flow : List Int), (l.map Arc.bd).Nodup → ∀ a ∈ l, a.bd < flow.length → (moveP m l flow).getD a.bd 0 = flow.getD a.bd 0 + sgn m a
 | [], _, _, a, ha, _ => by cases ha
 | x :: l, flow, hn, a, ha, hl => by
   rw [List.map_cons, List.nodup_cons] at hn
   show (moveP m l (move1 m flow x)).getD a.bd 0 = _
   rcases List.mem_cons.1 ha with rfl | ha
   ·rw [moveP_other l _ (fun y hy e => hn.1 (List.mem_map.2 ⟨y, hy, e⟩)), move1_get, if_pos ⟨rfl, hl⟩]
   ·rw [moveP_at l _ hn.2 a ha (by rw [move1_len]; exact hl), move1_get, if_neg (fun q => hn.1 (List.mem_map.2 ⟨a, ha, q.1.symm⟩))]
    omega
theorem push_noNeg {N : Nat} {bs : List Bd} {flow : List Int} {p : Nat} {s : Sh} {n : Nat} {v : Int} {l : List Arc} {m : Int} (hN : N ≤ 128) (_hp : p < N) (hv : AllValid N bs) (hn : NoNeg (resid (arcsP bs flow)))
 (HR : ShInv N (arcsP bs flow) (fun v => v = (p : Int)) s) (HB : ByInv N (arcsP bs flow) p s) (hfix : ∀ a ∈ arcsP bs flow, shorter s a = false) (hw : Way N (arcsP bs flow) p s n v l) (_h0 : ∀ j, 0 ≤ flow.getD j 0) :
 NoNeg (resid (arcsP bs (moveP m l flow))) := by
 have hva := arcs_valid flow hv
 obtain ⟨h, hh⟩ := openedP_some hN hva hn
 have hpot := openedP_pot hh
 have hlow := openedP_low hva hh
 obtain ⟨c, hc⟩ : ∃ c : Nat, c = ((N : Int) + 1).toNat * (resid (arcsP bs flow)).length := ⟨_, rfl⟩
 rw [← hc] at hlow
 refine noNeg_of_fun (g := fun v => if getK s.k v = true then getI s.c v else getI h v + (129000000 + (c : Int) * 1000000)) ?_
 have key : ∀ a ∈ arcsP bs flow, (if getK s.k a.dst = true then getI s.c a.dst else getI h a.dst + (129000000 + (c : Int) * 1000000)) ≤ (if getK s.k a.src = true then getI s.c a.src else getI h a.src + (129000000 + (c : Int) * 1000000)) + a.cost := by
  intro a ha
  obtain ⟨v1, v2, v3, v4, v5, v6⟩ := hva _ (mem_resid ha)
  simp only [Arc.bnd] at v1 v2 v3 v4 v5 v6
  have hp2 := hpot _ (mem_resid ha)
  simp only [Arc.bnd] at hp2
  by_cases hs : getK s.k a.src = true
  ·obtain ⟨k1, k2⟩ := not_shorter (hfix a ha) hs
   rw [if_pos k1, if_pos hs]; exact k2
  ·rw [if_neg hs]
   by_cases hd : getK s.k a.dst = true
   ·rw [if_pos hd]
    have b1 := HR.bounds hN hva hn v3 v4 hd
    have b2 := hlow a.src.toNat
    have b3 : getI h a.src = h.getD a.src.toNat 0 := rfl
    omega
   ·rw [if_neg hd]; omega
 intro b hb
 obtain ⟨a, ha, rfl⟩ := List.mem_map.1 hb
 by_cases hold : a ∈ arcsP bs flow
 ·exact key a hold
 ·-- a new way back
  obtain ⟨j, hj, q | ⟨q, hpos⟩⟩ := mem_arcsP.1 ha
  ·exact absurd (mem_arcsP.2 ⟨j, hj, .inl q⟩) hold
  ·have hz : ¬ 0 < flow.getD j 0 := fun q2 => hold (mem_arcsP.2 ⟨j, hj, .inr ⟨q, q2⟩⟩)
   have hx : ∃ x ∈ l, x.bd = j := by
    apply Classical.byContradiction
    intro hno
    rw [moveP_other l flow fun x hx e => hno ⟨x, hx, e⟩] at hpos
    exact hz hpos
   obtain ⟨x, hxl, rfl⟩ := hx
   obtain ⟨t1, t2, t3, t4⟩ := way_tight HB hw x hxl
   obtain ⟨_, e | ⟨_, e2⟩⟩ := arcs_at t1
   ·rw [q]
    rw [e] at t2 t3 t4
    simp only [fwdArc] at t2 t3 t4
    show (if getK s.k bs[x.bd].src = true then getI s.c bs[x.bd].src else getI h bs[x.bd].src + (129000000 + (c : Int) * 1000000)) ≤ (if getK s.k bs[x.bd].dst = true then getI s.c bs[x.bd].dst else getI h bs[x.bd].dst + (129000000 + (c : Int) * 1000000)) + -bs[x.bd].most
    rw [if_pos t2, if_pos t3]
    omega
   ·exact absurd e2 hz
theorem net_move1 {bs : List Bd} {flow : List Int} {a : Arc} {m : Int} (ha : ∃ hj : a.bd < bs.length, a = fwdArc a.bd bs[a.bd] ∨ a = bwdArc a.bd bs[a.bd]) (hl : flow.length = bs.length) (v : Int) :
 netOf bs (move1 m flow a) v = netOf bs flow v + ((if a.dst = v then m else 0) - (if a.src = v then m else 0)) := by
 obtain ⟨hj, h⟩ := ha
 obtain ⟨x, hx⟩ : ∃ x, x = (if a.back then flow.getD a.bd 0 - m else flow.getD a.bd 0 + m) := ⟨_, rfl⟩
 have e := netFrom_set flow v a.bd x (by omega) 0 bs (by omega) (Nat.zero_le _)
 simp only [Nat.sub_zero] at e
 unfold netOf move1
 rw [← hx, e]
 clear e
 generalize bs[a.bd] = b at h ⊢
 rcases h with h | h
 ·have e1 : a.back = false := by rw [h]; rfl
  have e2 : a.dst = b.dst := by rw [h]; rfl
  have e3 : a.src = b.src := by rw [h]; rfl
  rw [e1] at hx
  simp only [Bool.false_eq_true, if_false] at hx
  rw [e2, e3, show x - flow.getD a.bd 0 = m by omega]
 ·have e1 : a.back = true := by rw [h]; rfl
  have e2 : a.dst = b.src := by rw [h]; rfl
  have e3 : a.src = b.dst := by rw [h]; rfl
  rw [e1] at hx
  simp only [if_true] at hx
  rw [e2, e3, show x - flow.getD a.bd 0 = -m by omega]
  split <;> split <;> omega
theorem net_way {N : Nat} {bs : List Bd} {flow0 : List Int} {p : Int} {s : Sh} {m : Int} {n : Nat} {x : Int} {l : List Arc} (h : Way N (arcsP bs flow0) p s n x l) (v : Int) :
 ∀ flow : List Int, flow.length = bs.length → netOf bs (moveP m l flow) v = netOf bs flow v + ((if x = v then m else 0) - (if p = v then m else 0)) := by
 induction h with
 | nil => intro flow _; show netOf bs flow v = _; omega
 | @cons n x l hvp h0 h1 hk hA hd ht hup hw ih =>
   intro flow hl
   show netOf bs (moveP m l (move1 m flow (getA s.by_ x))) v = _
   rw [ih _ (by rw [move1_len]; exact hl), net_move1 (by obtain ⟨hj, q | ⟨q, _⟩⟩ := arcs_at hA; exact ⟨hj, .inl q⟩; exact ⟨hj, .inr q⟩) hl, hd]
   omega
theorem find_range {N : Nat} {P : Nat → Bool} {q : Nat} (h : (List.range N).find? P = some q) : q < N ∧ P q = true := ⟨List.mem_range.1 (List.mem_of_find?_eq_some h), List.find?_some h⟩
theorem find_none {N : Nat} {P : Nat → Bool} (h : (List.range N).find? P = none) : ∀ q, q < N → P q = false := fun q hq => by
 have := List.find?_eq_none.1 h q (List.mem_range.2 hq)
 simpa using this
theorem getI_nat (l : List Int) (n : Nat) : getI l (n : Int) = l.getD n 0 := rfl
structure Pushed (N : Nat) (bs : List Bd) (F : Fl) (p : Nat) (F' : Fl) (q : Nat) (m : Int) : Prop where
 hq : q < N
 ne : q ≠ p
 qpos : 0 < F.need.getD q 0
 m1 : 1 ≤ m
 mp : m ≤ -F.need.getD p 0
 mq : m ≤ F.need.getD q 0
 need : F'.need = addAt (addAt F.need p m) q (-m)
 len : F'.flow.length = bs.length
 fl0 : ∀ j, 0 ≤ F'.flow.getD j 0
 fl1 : ∀ j, F'.flow.getD j 0 ≤ F.flow.getD j 0 + m
 neg : NoNeg (resid (arcsP bs F'.flow))
 net : ∀ v : Int, netOf bs F'.flow v = netOf bs F.flow v + ((if (q : Int) = v then m else 0) - (if (p : Int) = v then m else 0))
theorem push_total {N : Nat} {bs : List Bd} {F : Fl} {p : Nat} (hN : N ≤ 128) (hv : AllValid N bs) (hF : FlOk N bs F) (h0 : ∀ j, 0 ≤ F.flow.getD j 0) (hp : p < N) (hneed : F.need.getD p 0 < 0) :
 pushP N bs F p = some none ∨ ∃ F' q m, pushP N bs F p = some (some F') ∧ Pushed N bs F p F' q m := by
 have hva := arcs_valid F.flow hv
 obtain ⟨HR0, HL0⟩ := shOne_inv (A := arcsP bs F.flow) hN hp
 obtain ⟨s, hs⟩ := shortGo_some hN hva hF.neg 1000 0 (shOne p) (by omega) (by omega) HR0 HL0
 have hfix := short_fix 1000 _ _ hs
 have hmid := short_mid (s0 := shOne p) 1000 _ _ MidA.start hs
 have HR := HR0.mid hN hva hmid
 have HB := (ByInv.start (A := arcsP bs F.flow) hp hN).mid hN hva hF.neg (by omega) HR0 hmid
 unfold pushP
 rw [hs]
 simp only
 cases hq : firstQ N s F.need with
 | none => exact .inl rfl
 | some q =>
   right
   obtain ⟨q1, q2⟩ := find_range hq
   unfold wants at q2
   simp only [Bool.and_eq_true, decide_eq_true_eq] at q2
   obtain ⟨q2, q3⟩ := q2
   rw [getI_nat] at q3
   obtain ⟨n, hup⟩ := HB.up q (by omega) (by omega) q2
   have hdep := HB.depth hva (by omega) (by omega) q2 hup
   obtain ⟨l, hl, hw⟩ := way_of hva HB hfix n q hup (by omega) (by omega) q2 1000 (by omega)
   simp only [hl]
   obtain ⟨m, hm⟩ : ∃ m, m = muchP F.flow l (min (-getI F.need p) (getI F.need q)) := ⟨_, rfl⟩
   rw [← hm]
   have hle := much_le F.flow l (min (-getI F.need p) (getI F.need q))
   have hti := way_tight HB hw
   have hpos := much_pos F.flow l (min (-getI F.need p) (getI F.need q)) (by rw [getI_nat, getI_nat]; omega) (fun a ha hb => arcs_back (hti a ha).1 hb)
   rw [← hm] at hle hpos
   rw [getI_nat, getI_nat] at hle
   have hnd := way_bds hw
   refine ⟨_, q, m, rfl, ?_⟩
   refine { hq := q1, ne := ?_, qpos := q3, m1 := by omega, mp := by omega, mq := by omega, need := rfl, len := by rw [moveP_len]; exact hF.fl, fl0 := ?_, fl1 := ?_, neg := push_noNeg hN hp hv hF.neg HR HB hfix hw h0, net := fun v => net_way hw v F.flow hF.fl }
   ·intro e; subst e; omega
   ·intro j
    by_cases hj : ∃ a ∈ l, a.bd = j
    ·obtain ⟨a, ha, rfl⟩ := hj
     obtain ⟨hb, _⟩ := arcs_at (hti a ha).1
     simp only
     rw [moveP_at l F.flow hnd a ha (by rw [hF.fl]; exact hb)]
     unfold sgn
     split
     ·rename_i hbk; have := hle.2 a ha hbk; omega
     ·have := h0 a.bd; omega
    ·simp only
     rw [moveP_other l F.flow fun a ha e => hj ⟨a, ha, e⟩]; exact h0 j
   ·intro j
    by_cases hj : ∃ a ∈ l, a.bd = j
    ·obtain ⟨a, ha, rfl⟩ := hj
     obtain ⟨hb, _⟩ := arcs_at (hti a ha).1
     simp only
     rw [moveP_at l F.flow hnd a ha (by rw [hF.fl]; exact hb)]
     unfold sgn
     split <;> omega
    ·simp only
     rw [moveP_other l F.flow fun a ha e => hj ⟨a, ha, e⟩]; omega
def lack (N : Nat) (need : List Int) : Int := sumN (fun v => max 0 (-need.getD v 0)) N
theorem sumN_at {f g : Nat → Int} {p : Nat} {d : Int} : ∀ {n : Nat}, p < n → (∀ i, i < n → g i = f i + if i = p then d else 0) → sumN g n = sumN f n + d
 | 0, h, _ => by omega
 | n + 1, h, hg => by
   simp only [sumN]
   by_cases e : p = n
   ·subst e
    rw [sumN_congr (g := f) fun i hi => by rw [hg i (by omega), if_neg (by omega)]; omega, hg p (by omega), if_pos rfl]
    omega
   ·rw [sumN_at (n := n) (f := f) (g := g) (p := p) (d := d) (by omega) fun i hi => hg i (by omega), hg n (by omega), if_neg (by omega)]
    omega
structure BInv (N : Nat) (bs : List Bd) (w : List Int) (C : Int) (F : Fl) : Prop where
 neg : NoNeg (resid (arcsP bs F.flow))
 fl : F.flow.length = bs.length
 fl0 : ∀ j, 0 ≤ F.flow.getD j 0
 tot : ∀ j, F.flow.getD j 0 + lack N F.need ≤ C
 nl : F.need.length = 128
 nb : ∀ v, -C ≤ F.need.getD v 0 ∧ F.need.getD v 0 ≤ C
 net : ∀ v : Nat, 1 ≤ v → v < N → netOf bs F.flow v + F.need.getD v 0 = w.getD v 0
 zero : sumN (fun v => F.need.getD v 0) N = 0
theorem lack_nonneg (N : Nat) (need : List Int) : 0 ≤ lack N need := sumN_nonneg fun i _ => by omega
theorem mem_getD {l : List Int} {x : Int} (h : x ∈ l) : ∃ j : Nat, l.getD j 0 = x := by
 obtain ⟨j, hj, rfl⟩ := List.getElem_of_mem h
 exact ⟨j, by rw [List.getD_eq_getElem?_getD, List.getElem?_eq_getElem hj]; rfl⟩
theorem BInv.ok {N : Nat} {bs : List Bd} {w : List Int} {C : Int} {F : Fl} (h : BInv N bs w C F) (hC : C ≤ 1000000000) : FlOk N bs F := by
 have hz := lack_nonneg N F.need
 refine ⟨h.neg, h.fl, fun x hx => ?_, h.nl, fun x hx => ?_⟩
 ·obtain ⟨j, rfl⟩ := mem_getD hx
  have := h.fl0 j
  have := h.tot j
  omega
 ·obtain ⟨j, rfl⟩ := mem_getD hx
  have := h.nb j
  omega
theorem BInv.push {N : Nat} {bs : List Bd} {w : List Int} {C : Int} {F F' : Fl} {p q : Nat} {m : Int} (hN : N ≤ 128) (hp : p < N) (h : BInv N bs w C F) (P : Pushed N bs F p F' q m) : BInv N bs w C F' ∧ lack N F'.need + m = lack N F.need := by
 have hq := P.hq
 have hne := P.ne
 have hnl := h.nl
 have m1 := P.m1
 have mp := P.mp
 have mq := P.mq
 have hget : ∀ v, F'.need.getD v 0 = F.need.getD v 0 + (if v = p then m else 0) + (if v = q then -m else 0) := by
  intro v
  rw [P.need, addAt_get0, addAt_get0, addAt_len0]
  by_cases e1 : v = p
  ·subst e1
   rw [if_pos ⟨rfl, by omega⟩, if_neg (fun e => hne e.1), if_pos rfl, if_neg (fun e => hne e.symm)]
  ·rw [if_neg (fun e => e1 e.1.symm), if_neg e1]
   by_cases e2 : v = q
   ·subst e2; rw [if_pos ⟨rfl, by omega⟩, if_pos rfl]
   ·rw [if_neg (fun e => e2 e.1.symm), if_neg e2]
 have hlack : lack N F'.need + m = lack N F.need := by
  have : lack N F'.need = lack N F.need + -m := by
   unfold lack
   refine sumN_at hp fun i _ => ?_
   rw [hget i]
   by_cases e1 : i = p
   ·subst e1; rw [if_pos rfl, if_neg (fun e => hne e.symm), if_pos rfl]; omega
   ·rw [if_neg e1, if_neg e1]
    by_cases e2 : i = q
    ·subst e2; rw [if_pos rfl]; omega
    ·rw [if_neg e2]; omega
  omega
 refine ⟨{ neg := P.neg, fl := P.len, fl0 := P.fl0, tot := fun j => ?_, nl := by rw [P.need, addAt_len0, addAt_len0]; exact hnl, nb := fun v => ?_, net := fun v hv hvN => ?_, zero := ?_ }, hlack⟩
 ·have := P.fl1 j; have := h.tot j; omega
 ·have := h.nb v
  rw [hget v]
  by_cases e1 : v = p
  ·subst e1; rw [if_pos rfl, if_neg (fun e => hne e.symm)]; omega
  ·rw [if_neg e1]
   by_cases e2 : v = q
   ·subst e2; rw [if_pos rfl]; omega
   ·rw [if_neg e2]; omega
 ·have := h.net v hv hvN
  rw [P.net, hget v]
  by_cases e1 : v = p
  ·subst e1; rw [if_neg (by omega), if_pos rfl, if_pos rfl, if_neg (fun e => hne e.symm)]; omega
  ·rw [if_neg (show ¬ (p : Int) = v by omega), if_neg e1]
   by_cases e2 : v = q
   ·subst e2; rw [if_pos rfl, if_pos rfl]; omega
   ·rw [if_neg (by omega), if_neg e2]; omega
 ·have a1 : sumN (fun v => F.need.getD v 0 + if v = p then m else 0) N = sumN (fun v => F.need.getD v 0) N + m := sumN_at hp fun i _ => rfl
  have a2 : sumN (fun v => F'.need.getD v 0) N = sumN (fun v => F.need.getD v 0 + if v = p then m else 0) N + -m := sumN_at hq fun i _ => hget i
  have := h.zero
  omega
theorem best_runs {N : Nat} {bs : List Bd} {w : List Int} {C : Int} (hN : N ≤ 128) (hC : C ≤ 1000000000) (hv : AllValid N bs) : ∀ (k : Nat) (F : Fl), BInv N bs w C F → lack N F.need ≤ k →
 ∃ R, Runs N bs F R ∧ ∀ F', R = some F' → BInv N bs w C F' ∧ firstP N F'.need = none := by
 intro k
 induction k with
 | zero =>
   intro F h hk
   have hz := lack_nonneg N F.need
   have hf : firstP N F.need = none := by
    refine List.find?_eq_none.2 fun p hp => ?_
    have hp' := List.mem_range.1 hp
    have := sumN_one (f := fun v => max 0 (-F.need.getD v 0)) hp' (fun i _ => by omega)
    unfold lack at hk
    have hg := getI_nat F.need p
    simp only [decide_eq_true_eq]
    rw [hg]
    omega
   exact ⟨some F, .done (h.ok hC) hf, fun F' e => by cases e; exact ⟨h, hf⟩⟩
 | succ k ih =>
   intro F h hk
   cases hf : firstP N F.need with
   | none => exact ⟨some F, .done (h.ok hC) hf, fun F' e => by cases e; exact ⟨h, hf⟩⟩
   | some p =>
     obtain ⟨p1, p2⟩ := find_range hf
     simp only [decide_eq_true_eq] at p2
     rw [getI_nat] at p2
     rcases push_total hN hv (h.ok hC) h.fl0 p1 p2 with e | ⟨F', q, m, e, P⟩
     ·exact ⟨none, .stuck (h.ok hC) hf e, fun F' e => by cases e⟩
     ·obtain ⟨h', hl⟩ := h.push hN p1 P
      have m1 := P.m1
      obtain ⟨R, hR, hL⟩ := ih F' h' (by omega)
      exact ⟨R, .step (h.ok hC) hf e hR, hL⟩
theorem sum_shift (g : Nat → Int) : ∀ n, sumN g (n + 1) = g 0 + sumN (fun i => g (i + 1)) n
 | 0 => by simp [sumN]
 | n + 1 => by
   have := sum_shift g n
   simp only [sumN] at this ⊢
   omega
theorem rep_getD (n j : Nat) : (List.replicate n (0 : Int)).getD j 0 = 0 := by
 simp only [List.getD_eq_getElem?_getD, List.getElem?_replicate]; split <;> rfl
theorem resid_zero (n : Nat) : ∀ (i : Nat) (bs : List Bd), ∀ a ∈ arcsFrom (List.replicate n 0) i bs, ∃ b ∈ bs, a.src = b.src ∧ a.dst = b.dst ∧ a.cost = b.most
 | _, [], a, h => by cases h
 | i, b :: bs, a, h => by
   simp only [arcsFrom, arcsAt, rep_getD, Int.lt_irrefl, if_false, List.cons_append, List.nil_append, List.mem_cons] at h
   rcases h with rfl | h
   ·exact ⟨b, List.mem_cons_self .., rfl, rfl, rfl⟩
   ·obtain ⟨c, hc, e⟩ := resid_zero n (i + 1) bs a h
    exact ⟨c, List.mem_cons_of_mem _ hc, e⟩
theorem noNeg_start {N : Nat} {bs : List Bd} (hN : N ≤ 128) (hv : AllValid N bs) (h : NoNeg bs) (n : Nat) : NoNeg (resid (arcsP bs (List.replicate n 0))) := by
 obtain ⟨t, ht⟩ := openedP_some hN hv h
 have hp := openedP_pot ht
 refine noNeg_of_fun (g := getI t) fun b hb => ?_
 obtain ⟨a, ha, rfl⟩ := List.mem_map.1 hb
 obtain ⟨c, hc, e1, e2, e3⟩ := resid_zero n 0 bs a ha
 have := hp c hc
 simp only [Arc.bnd]
 rw [e1, e2, e3]
 omega
theorem netFrom_zero (n : Nat) (v : Int) : ∀ (i : Nat) (bs : List Bd), netFrom (List.replicate n 0) v i bs = 0
 | _, [] => rfl
 | i, b :: bs => by simp only [netFrom, rep_getD, netFrom_zero n v (i + 1) bs, ite_self]; rfl
theorem start_inv {N : Nat} {bs : List Bd} {w : List Int} (h1 : 1 ≤ N) (hN : N ≤ 128) (hv : AllValid N bs) (h : NoNeg bs) (hw : ∀ v, -1000000 ≤ w.getD v 0 ∧ w.getD v 0 ≤ 1000000) : BInv N bs w 256000000 (start N bs w) := by
 have hg := needTo_get w (N - 1) (by omega)
 have hs := sumN_bd (f := fun i => w.getD (i + 1) 0) (c := 1000000) (n := N - 1) fun i _ => hw (i + 1)
 have hnb : ∀ v, -127000000 ≤ (needTo w (N - 1)).getD v 0 ∧ (needTo w (N - 1)).getD v 0 ≤ 127000000 := by
  intro v
  rw [hg v]
  have := hw v
  split
  ·omega
  ·split <;> omega
 have hlack : lack N (needTo w (N - 1)) ≤ 254000000 := by
  unfold lack
  obtain ⟨M, rfl⟩ : ∃ M, N = M + 1 := ⟨N - 1, by omega⟩
  rw [sum_shift]
  have a := hnb 0
  have b := sumN_bd (f := fun i => max 0 (-(needTo w (M + 1 - 1)).getD (i + 1) 0)) (c := 1000000) (n := M) fun i hi => by
   rw [hg (i + 1), if_neg (by omega), if_pos (by omega)]
   have := hw (i + 1)
   omega
  omega
 refine { neg := noNeg_start hN hv h _, fl := by simp [start], fl0 := fun j => ?_, tot := fun j => ?_, nl := needTo_len w _, nb := fun v => ?_, net := fun v hv1 hvN => ?_, zero := ?_ }
 ·show 0 ≤ (List.replicate _ (0 : Int)).getD j 0; rw [rep_getD]; omega
 ·show (List.replicate _ (0 : Int)).getD j 0 + lack N (needTo w (N - 1)) ≤ _; rw [rep_getD]; omega
 ·have := hnb v; show _ ≤ (needTo w (N - 1)).getD v 0 ∧ (needTo w (N - 1)).getD v 0 ≤ _; omega
 ·show netOf bs (List.replicate _ 0) v + (needTo w (N - 1)).getD v 0 = _
  unfold netOf
  rw [netFrom_zero, hg v, if_neg (by omega), if_pos (by omega)]; omega
 ·show sumN (fun v => (needTo w (N - 1)).getD v 0) N = 0
  obtain ⟨M, rfl⟩ : ∃ M, N = M + 1 := ⟨N - 1, by omega⟩
  have e2 : sumN (fun i => (needTo w (M + 1 - 1)).getD (i + 1) 0) M = sumN (fun i => w.getD (i + 1) 0) M := sumN_congr fun i hi => by rw [hg (i + 1), if_neg (by omega), if_pos (by omega)]
  rw [sum_shift, hg 0, if_pos rfl, e2]
  simp only [Nat.add_sub_cancel]
  omega
structure BestOk (N : Nat) (bs : List Bd) (w y flow : List Int) : Prop where
 yl : y.length = N
 y0 : y.getD 0 0 = 0
 yb : ∀ v, -256000000 ≤ y.getD v 0 ∧ y.getD v 0 ≤ 256000000
 kept : ∀ b ∈ bs, getI y b.dst - getI y b.src ≤ b.most
 fl : flow.length = bs.length
 fb : ∀ j, 0 ≤ flow.getD j 0 ∧ flow.getD j 0 ≤ 256000000
 net : ∀ v : Nat, 1 ≤ v → v < N → netOf bs flow v = w.getD v 0
 cost : costOf bs flow = sumN (fun v => w.getD v 0 * y.getD v 0) N
theorem best_end {N : Nat} {bs : List Bd} {w : List Int} {F : Fl} (h1 : 1 ≤ N) (hN : N ≤ 128) (hv : AllValid N bs) (h : BInv N bs w 256000000 F) (hf : firstP N F.need = none) :
 ∃ s, shortGo (arcsP bs F.flow) 1000 (shAll N) = some s ∧ BestOk N bs w (valsOf N s) F.flow := by
 have hva := arcs_valid F.flow hv
 obtain ⟨HR0, HL0⟩ := shAll_inv (A := arcsP bs F.flow) hN
 obtain ⟨s, hs⟩ := shortGo_some hN hva h.neg 1000 0 (shAll N) (by omega) (by omega) HR0 HL0
 have hfix := short_fix 1000 _ _ hs
 have hmid := short_mid (s0 := shAll N) 1000 _ _ MidA.start hs
 have HR := HR0.mid hN hva hmid
 have hkn : ∀ v : Int, 0 ≤ v → v < N → getK s.k v = true := by
  have h0 : ∀ v : Int, 0 ≤ v → v < N → getK (shAll N).k v = true := by
   intro v a b
   exact (HL0 v v [] ⟨a, b⟩ a b rfl Over.nil (Nat.le_refl _)).1
  have : ∀ t, MidA (arcsP bs F.flow) (shAll N) t → (∀ v : Int, 0 ≤ v → v < N → getK t.k v = true) ∧ t.whole := by
   intro t ht
   induction ht with
   | start => exact ⟨h0, HR0.whole⟩
   | @step t a ht ha hsh ih =>
     refine ⟨fun v a1 a2 => ?_, Sh.upd_whole ih.2 a⟩
     rw [upd_k ih.2 hN (hva _ (mem_resid ha)) a1]
     split
     ·rfl
     ·exact ih.1 v a1 a2
  exact (this s hmid).1
 have hb := fun (v : Int) a b => HR.bounds hN hva h.neg (v := v) a b (hkn v a b)
 have hneed : ∀ v, v < N → F.need.getD v 0 = 0 := by
  have hnn : ∀ v, v < N → 0 ≤ F.need.getD v 0 := by
   intro v hvN
   have := find_none hf v hvN
   simp only [decide_eq_false_iff_not] at this
   rw [getI_nat] at this
   omega
  intro v hvN
  have := sumN_one (f := fun v => F.need.getD v 0) hvN hnn
  have := h.zero
  have := hnn v hvN
  omega
 have hy : ∀ v : Int, 0 ≤ v → v < N → getI (valsOf N s) v = getI s.c v - getI s.c 0 := by
  intro v a b
  obtain ⟨n, rfl⟩ := Int.eq_ofNat_of_zero_le a
  rw [getI_nat, vals_get N s n (by omega)]
 have harc : ∀ a ∈ arcsP bs F.flow, getI s.c a.dst ≤ getI s.c a.src + a.cost := by
  intro a ha
  obtain ⟨v1, v2, _⟩ := hva _ (mem_resid ha)
  exact (not_shorter (hfix a ha) (hkn _ v1 v2)).2
 refine ⟨s, hs, { yl := by simp [valsOf], y0 := ?_, yb := fun v => ?_, kept := fun b hbm => ?_, fl := h.fl, fb := fun j => ?_, net := fun v a b => ?_, cost := ?_ }⟩
 ·rw [vals_get N s 0 (by omega)]; simp
 ·by_cases hvN : v < N
  ·rw [vals_get N s v hvN]
   have a := hb v (by omega) (by omega)
   have b := hb 0 (by omega) (by omega)
   omega
  ·rw [List.getD_eq_getElem?_getD, List.getElem?_eq_none (by simp [valsOf]; omega)]; simp
 ·obtain ⟨v1, v2, v3, v4, _⟩ := hv b hbm
  obtain ⟨j, hj, rfl⟩ := List.getElem_of_mem hbm
  have := harc _ (mem_arcsP.2 ⟨j, hj, .inl rfl⟩)
  simp only [fwdArc] at this
  rw [hy _ v1 v2, hy _ v3 v4]
  omega
 ·have a := h.tot j
  have b := lack_nonneg N F.need
  exact ⟨h.fl0 j, by omega⟩
 ·have := h.net v a b
  rw [hneed v b] at this
  omega
 ·have e1 := dot_net (N := N) F.flow (getI (valsOf N s)) 0 bs hv
  have e2 := diff_eq (flow := F.flow) (y := getI (valsOf N s)) 0 bs fun j hj hne => by
   rw [Nat.zero_add] at hne
   have hpos : 0 < F.flow.getD j 0 := by have := h.fl0 j; omega
   obtain ⟨v1, v2, v3, v4, _⟩ := hv _ (List.getElem_mem hj)
   have a := harc _ (mem_arcsP.2 ⟨j, hj, .inl rfl⟩)
   have b := harc _ (mem_arcsP.2 ⟨j, hj, .inr ⟨rfl, hpos⟩⟩)
   simp only [fwdArc, bwdArc] at a b
   rw [hy _ v1 v2, hy _ v3 v4]
   omega
  unfold costOf
  rw [← e2, ← e1]
  obtain ⟨M, rfl⟩ : ∃ M, N = M + 1 := ⟨N - 1, by omega⟩
  rw [sum_shift, sum_shift]
  have z : getI (valsOf (M + 1) s) ((0 : Nat) : Int) = 0 := by rw [hy _ (by omega) (by omega)]; simp
  have z2 : (valsOf (M + 1) s).getD 0 0 = 0 := by rw [vals_get _ _ _ (by omega)]; simp
  rw [z, z2, Int.zero_mul, Int.mul_zero]
  congr 1
  refine sumN_congr fun i hi => ?_
  have := h.net (i + 1) (by omega) (by omega)
  rw [hneed (i + 1) (by omega), Int.add_zero] at this
  show getI (valsOf (M + 1) s) ((i + 1 : Nat) : Int) * netOf bs F.flow ((i + 1 : Nat) : Int) = _
  rw [this, getI_nat, Int.mul_comm]
theorem flB_of {N : Nat} {bs : List Bd} {F : Fl} (hN : N ≤ 128) (hv : AllValid N bs) (h : FlOk N bs F) : flB N bs F = true := by
 unfold flB
 simp only [Bool.and_eq_true, beq_iff_eq, List.all_eq_true, decide_eq_true_eq]
 exact ⟨⟨⟨⟨(openedP_iff hN (arcs_valid F.flow hv)).2 h.neg, h.fl⟩, h.fb⟩, h.nl⟩, h.nb⟩
theorem runsB_of {N : Nat} {bs : List Bd} (hN : N ≤ 128) (hv : AllValid N bs) {F : Fl} {R : Option Fl} (h : Runs N bs F R) : ∃ f, runsB N bs f F = some R := by
 induction h with
 | done ok e => exact ⟨1, by unfold runsB; rw [if_neg (by rw [flB_of hN hv ok]; simp), e]⟩
 | stuck ok e e2 => exact ⟨1, by unfold runsB; rw [if_neg (by rw [flB_of hN hv ok]; simp), e]; simp only [e2]⟩
 | step ok e e2 _ ih =>
   obtain ⟨f, hf⟩ := ih
   exact ⟨f + 1, by unfold runsB; rw [if_neg (by rw [flB_of hN hv ok]; simp), e]; simp only [e2]; exact hf⟩
theorem best_total {N : Nat} {bs : List Bd} {w : List Int} (h1 : 1 ≤ N) (hN : N ≤ 128) (hv : AllValid N bs) (h : NoNeg bs) (hw : ∀ v, -1000000 ≤ w.getD v 0 ∧ w.getD v 0 ≤ 1000000) (_hl : w.length = N) :
 ∃ f R, BestRun N bs w f R ∧ ∀ r, R = some r → BestOk N bs w r.y r.flow ∧ r.n = formP w r.y := by
 have hi := start_inv h1 hN hv h hw
 obtain ⟨R0, hR, hL⟩ := best_runs hN (by omega) hv (lack N (start N bs w).need).toNat (start N bs w) hi (by omega)
 obtain ⟨f, hf⟩ := runsB_of hN hv hR
 cases R0 with
 | none => exact ⟨f, none, ⟨none, hf, .inl ⟨rfl, rfl⟩⟩, fun r e => by cases e⟩
 | some F =>
   obtain ⟨hF, hfp⟩ := hL F rfl
   obtain ⟨s, hs, hb⟩ := best_end h1 hN hv hF hfp
   exact ⟨f, some ⟨formP w (valsOf N s), valsOf N s, F.flow⟩, ⟨some F, hf, .inr ⟨F, s, rfl, hs, rfl⟩⟩, fun r e => by cases e; exact ⟨hb, rfl⟩⟩
end Go.Proofs.YthjmkmjojlfejaaGreat
namespace Go.Proofs.YthjmkmjojlfejaaGreat
open Go Go.RowKit
theorem flat_length (bs : List Bd) : (flat bs).length = bs.length * 4 := by
 induction bs with
 | nil => rfl
 | cons b bs ih => simp only [flat, List.flatMap_cons, List.length_append, List.length_cons] at *; rw [ih]; simp [Bd.cells]; omega
theorem flat_append (a b : List Bd) : flat (a ++ b) = flat a ++ flat b := by simp [flat]
end Go.Proofs.YthjmkmjojlfejaaGreat
namespace Go.Proofs.YthjmkmjojlfejaaGreat
open Go Go.RowKit Go.Shelf
attribute [local go_sem] Oper.semAt_some
theorem Tryz.info81 : (Tryz.prog.info? 81).map (fun i => (i.zero, i.size, i.bytes)) = some (some (.agg #[.int .i64 0, .int .i64 0, .int .i64 0, .int .i64 0]), 4, 32) := by kernel_rfl
attribute [local go_sem] Oper.semAt_some
theorem info3 : (Tryz.prog.info? 3).map (fun i => (i.zero, i.size, i.bytes)) = some (some (.int .i64 0), 1, 8) := by kernel_rfl
theorem boundsAt_news {w : World} {b off : Nat} {l : List Bd} (h : ∀ i (hi : i < l.length), l[i].cellsAt w b (off + i * 4)) : ∀ j u, (flat l)[j]? = some u → w.cell? ((⟨b, off, none⟩ : Addr).add j) = some u := by
 intro j u hj
 rw [show ((⟨b, off, none⟩ : Addr).add j) = ⟨b, off + j, none⟩ from by unfold Addr.add; split <;> simp_all]
 have hlt : j < l.length * 4 := by
  have := (List.getElem?_eq_some_iff.1 hj).1
  rwa [flat_length] at this
 have hi : j / 4 < l.length := by omega
 have hg := flat_get l (j / 4) hi (j % 4) (by omega)
 rw [show j / 4 * 4 + j % 4 = j by omega, hj] at hg
 obtain ⟨h0, h1, h2, h3⟩ := h (j / 4) hi
 have h4 : j % 4 = 0 ∨ j % 4 = 1 ∨ j % 4 = 2 ∨ j % 4 = 3 := by omega
 rcases h4 with e | e | e | e <;> rw [e] at hg <;> simp only [Bd.cells] at hg <;> simp at hg <;> rw [hg]
 ·rw [show off + j = off + j / 4 * 4 by omega]; exact h0
 ·rw [show off + j = off + j / 4 * 4 + 1 by omega]; exact h1
 ·rw [show off + j = off + j / 4 * 4 + 2 by omega]; exact h2
 ·rw [show off + j = off + j / 4 * 4 + 3 by omega]; exact h3
theorem run_append_nil (w : World) (base : Nat) (t ty e : TypeId) (i : TypeInfo) (size : Nat) (ht : Tryz.prog.underlying t = some (.slice e)) (hi : Tryz.prog.info? e = some i)
 (v : Value) (n : Nat) (xs : List Value) (hown : w.ownsRow base e size v n xs) (c : Nat) : (Builtin.append_ #[t, t] ty #[v, .slice none 0 c]).run Tryz.prog w = .ok v w := by
 rcases hown.2 with ⟨rfl, rfl⟩ | ⟨g, cap, cur, rfl, _, _, hnc, _⟩
 ·simp [Builtin.append_, run_underlying ht, sizeOf, typeInfo, hi, Builtin.lenOf, Builtin.firstCells]
 ·simp [Builtin.append_, run_underlying ht, sizeOf, typeInfo, hi, Builtin.lenOf, Builtin.firstCells, hnc, storeCells]
theorem intsV_oneV (l : List Int) : ∀ u ∈ intsV l, u.oneCell' = true := by intro u hu; simp [intsV] at hu; obtain ⟨q, _, rfl⟩ := hu; rfl
theorem intsAt_news {w : World} {b off : Nat} {l : List Int} (h : ∀ i (hi : i < l.length), w.cell? ⟨b, off + i, none⟩ = some (.int .i64 l[i])) : ∀ j u, (intsV l)[j]? = some u → w.cell? ((⟨b, off, none⟩ : Addr).add j) = some u := by
 intro j u hj
 rw [show ((⟨b, off, none⟩ : Addr).add j) = ⟨b, off + j, none⟩ from by unfold Addr.add; split <;> simp_all]
 have hlt : j < l.length := by have := (List.getElem?_eq_some_iff.1 hj).1; simpa [intsV] using this
 rw [h j hlt]
 simpa [intsV, hlt] using hj
theorem flat_cat (a b : List Bd) : flat (a ++ b) = flat a ++ flat b := flat_append a b
theorem intsV_cat (a b : List Int) : intsV (a ++ b) = intsV a ++ intsV b := by simp [intsV]
theorem append_ints (w : World) (base : Nat) (v : Value) (xs : List Int) (hown : w.ownsRow base 3 1 v xs.length (intsV xs)) (a : Option Addr) (cap : Nat) (l : List Int) (h : IntsAt w a l) (hx : xs.length ≤ 100000) (hl : l.length ≤ 100000) (hb : base ≤ w.heap.size) (ty : TypeId) :
 ∃ v' w', (Builtin.append_ #[25, 25] ty #[v, .slice a l.length cap]).run Tryz.prog w = .ok v' w' ∧ w'.ownsRow base 3 1 v' (xs ++ l).length (intsV (xs ++ l)) ∧ Below base w w' := by
 obtain ⟨i0, hi, hz0, hz1, hz2⟩ := info_parts info3
 cases a with
 | none =>
   have hl0 : l = [] := by rcases h with e | ⟨b, off, e, _⟩; exact e; cases e
   subst hl0
   exact ⟨v, w, run_append_nil w base 25 ty 3 i0 1 Tryz.underlying25 hi v _ _ hown cap, by simpa using hown, Below.refl _ _⟩
 | some ad =>
   have hnews : ∀ j u, (intsV l)[j]? = some u → w.cell? (ad.add j) = some u := by
    rcases h with e | ⟨b, off, e, _, hc⟩
    ·subst e; intro j u hj; simp [intsV] at hj
    ·cases e; exact intsAt_news hc
   obtain ⟨v', w', hrun, h2, h3, _, h5⟩ := run_append_own_at (P := Tryz.prog) w base 25 ty 3 i0 _ 1 8 Tryz.underlying25 hi hz0 hz1 hz2 rfl (by decide) v _ _ hown ad l.length cap (intsV l) (by simp [intsV]) hnews (intsV_oneV l) (by unfold maxLen; omega) (by omega) hb
   refine ⟨v', w', hrun, by rw [List.length_append, intsV_cat]; exact h2, (Below.refl base w).grown h3 hb (fun q e => ?_)⟩
   rcases hown.2 with ⟨e1, _⟩ | ⟨g1, cp', cu, e1, hge, hh, _⟩
   ·rw [e1] at e; simp [Value.ownBlock] at e
   ·rw [e1] at e
    simp only [Value.ownBlock, Option.some.injEq] at e
    omega
theorem append_bounds (w : World) (base : Nat) (v : Value) (xs : List Bd) (hown : w.ownsRow base 81 4 v xs.length (flat xs)) (a : Option Addr) (cap : Nat) (l : List Bd) (h : BoundsAt w a l) (hx : xs.length ≤ 100000) (hl : l.length ≤ 100000) (hb : base ≤ w.heap.size) (ty : TypeId) :
 ∃ v' w', (Builtin.append_ #[22, 22] ty #[v, .slice a l.length cap]).run Tryz.prog w = .ok v' w' ∧ w'.ownsRow base 81 4 v' (xs ++ l).length (flat (xs ++ l)) ∧ Below base w w' := by
 obtain ⟨i0, hi, hz0, hz1, hz2⟩ := info_parts Tryz.info81
 cases a with
 | none =>
   have hl0 : l = [] := by rcases h with e | ⟨b, off, e, _⟩; exact e; cases e
   subst hl0
   exact ⟨v, w, run_append_nil w base 22 ty 81 i0 4 Tryz.underlying22 hi v _ _ hown cap, by simpa using hown, Below.refl _ _⟩
 | some ad =>
   have hnews : ∀ j u, (flat l)[j]? = some u → w.cell? (ad.add j) = some u := by
    rcases h with e | ⟨b, off, e, _, hc⟩
    ·subst e; intro j u hj; simp [flat] at hj
    ·cases e; exact boundsAt_news hc
   obtain ⟨v', w', hrun, h2, h3, _, h5⟩ := run_append_own_at (P := Tryz.prog) w base 22 ty 81 i0 _ 4 32 Tryz.underlying22 hi hz0 hz1 hz2 rfl (by decide) v _ _ hown ad l.length cap (flat l) (by simp [flat_length]) hnews (flat_one l) (by unfold maxLen; omega) (by omega) hb
   refine ⟨v', w', hrun, by rw [List.length_append, flat_cat]; exact h2, (Below.refl base w).grown h3 hb (fun q e => ?_)⟩
   rcases hown.2 with ⟨e1, _⟩ | ⟨g1, cp', cu, e1, hge, hh, _⟩
   ·rw [e1] at e; simp [Value.ownBlock] at e
   ·rw [e1] at e
    simp only [Value.ownBlock, Option.some.injEq] at e
    omega
theorem owns_empty {W : World} {base g : Nat} (h : W.heap[g]? = some (.cells #[] 81 (0,0))) (hb : base ≤ g) : W.ownsRow base 81 4 (.slice (some ⟨g, 0, none⟩) 0 0) ([] : List Bd).length (flat []) :=
 ⟨rfl, .inr ⟨g, 0, #[], rfl, hb, h, Nat.le_refl _, Nat.zero_le _, rfl, rfl⟩⟩
theorem owns_empty_ints {W : World} {base g : Nat} (h : W.heap[g]? = some (.cells #[] 3 (0,0))) (hb : base ≤ g) : W.ownsRow base 3 1 (.slice (some ⟨g, 0, none⟩) 0 0) ([] : List Int).length (intsV []) :=
 ⟨rfl, .inr ⟨g, 0, #[], rfl, hb, h, Nat.le_refl _, Nat.zero_le _, rfl, rfl⟩⟩
end Go.Proofs.YthjmkmjojlfejaaGreat
namespace Go.Proofs.YthjmkmjojlfejaaGreat
structure Ends (n : Nat) (bs : List Bd) (w : List Int) (f : Nat) (R : Option BestR) (g : Nat) (S : Option BestR) : Prop where
 hi : BestRun n bs w f R
 ho : ∀ r, R = some r → BestOk n bs w r.y r.flow ∧ r.n = formP w r.y
 lo : BestRun n bs (w.map (-·)) g S
 lk : ∀ r, S = some r → BestOk n bs (w.map (-·)) r.y r.flow ∧ r.n = formP (w.map (-·)) r.y
theorem map_neg_getD (w : List Int) (v : Nat) : (w.map (-·)).getD v 0 = -w.getD v 0 := by
 simp only [List.getD_eq_getElem?_getD, List.getElem?_map]
 cases w[v]? <;> simp
end Go.Proofs.YthjmkmjojlfejaaGreat
namespace Go.Proofs.YthjmkmjojlfejaaGreat
open Go Go.RowKit Go.Shelf
set_option maxRecDepth 100000 in
set_option maxHeartbeats 2000000 in
theorem pgreatest_any (w : World) (N : Nat) (a : Option Addr) (cap : Nat) (bs : List Bd) (a2 : Option Addr) (cap2 : Nat) (wt : List Int) (f : Nat) (R : Option BestR) (h1 : 1 ≤ N) (hN : N ≤ 128) (hl : bs.length ≤ 4000) (hv : AllValid N bs)
 (hB : BoundsAt w a bs) (hW : IntsAt w a2 wt) (hwl : wt.length = N) (hwb : ∀ v ∈ wt, -1000000 ≤ v ∧ v ≤ 1000000) (hrun : BestRun N bs wt f R) :
 Calls Tryz.prog 135 #[.agg #[.int .i64 (N : Int), .slice a bs.length cap, .slice a2 N cap2]] w fun e w' => BestPost R w.heap.size e w' ∧ Below w.heap.size w w' := by
 obtain ⟨W0, hW0⟩ : ∃ W0, W0 = w.alloc (.cells #[.int .i64 (N : Int), .slice a bs.length cap, .slice a2 N cap2] 141) := ⟨_, rfl⟩
 have B0 := hidE (show Below w.heap.size w W0 by rw [hW0]; exact (Below.refl _ _).alloc (Nat.le_refl _) _)
 have X0 := hidE (show W0.heap[w.heap.size]? = some (.cells #[.int .i64 (N : Int), .slice a bs.length cap, .slice a2 N cap2] 141 (0,0)) by rw [hW0]; exact heap_alloc_new _ _)
 have HB := hidE (best_any W0 N a cap bs a2 cap2 wt f R h1 hN hl hv (hB.below B0.out (Nat.le_refl _)) (hW.below B0.out (Nat.le_refl _)) hwl hwb hrun)
 clear hv hB hW hwl hwb hrun
 have c0 : W0.cell? ⟨w.heap.size, 0, none⟩ = some (.int .i64 (N : Int)) := c_e X0.out rfl
 have c1 : W0.cell? ⟨w.heap.size, 1, none⟩ = some (.slice a bs.length cap) := c_e X0.out rfl
 have c2 : W0.cell? ⟨w.heap.size, 2, none⟩ = some (.slice a2 N cap2) := c_e X0.out rfl
 go_enter Tryz.func135, Tryz.ntmps135
 go_upto_region 1 with fail
 rw [← hW0]
 clear hW0
 go_wp2_with fail
 refine HB.out.mono ?_
 rintro e w2 ⟨hp, hb2⟩
 have BB := hidE (B0.out.trans (hb2.mono B0.out.size))
 have hsz := B0.out.size
 clear hb2 HB c0 c1 c2
 cases R with
 | none =>
   obtain rfl := hp
   go_wp2_with fail
   refine bodyPost_ret (v := .tuple #[.int .i64 0, .slice none 0 0, .slice none 0 0, .int .i64 50]) (by simp [results, Tryz.results135, go_sem]) rfl ⟨rfl, BB.out⟩
 | some r =>
   obtain ⟨gy, gF, rfl, p1, p2, p3, p4, p5⟩ := hp
   have P4 := hidE p4
   have P5 := hidE p5
   clear p4 p5
   go_wp2_with fail
   refine bodyPost_ret (v := .tuple #[.int .i64 r.n, .slice (some ⟨gy, 0, none⟩) r.y.length r.y.length, .slice (some ⟨gF, 0, none⟩) r.flow.length r.flow.length, .int .i64 0]) (by simp [results, Tryz.results135, go_sem]) rfl ⟨⟨gy, gF, rfl, by omega, by omega, p3, P4.out, P5.out⟩, BB.out⟩
set_option maxRecDepth 100000 in
set_option maxHeartbeats 4000000 in
theorem pleast_any (w : World) (N : Nat) (a : Option Addr) (cap : Nat) (bs : List Bd) (a2 : Option Addr) (cap2 : Nat) (wt : List Int) (f : Nat) (R : Option BestR) (h1 : 1 ≤ N) (hN : N ≤ 128) (hl : bs.length ≤ 2000) (hv : AllValid N bs)
 (hB : BoundsAt w a bs) (hW : IntsAt w a2 wt) (hwl : wt.length = N) (hwb : ∀ v ∈ wt, -1000000 ≤ v ∧ v ≤ 1000000) (hrun : BestRun N bs (wt.map (-·)) f R) :
 Calls Tryz.prog 134 #[.agg #[.int .i64 (N : Int), .slice a bs.length cap, .slice a2 N cap2]] w fun e w' => BestPost (R.map fun r => ⟨-r.n, r.y, r.flow⟩) w.heap.size e w' ∧ Below w.heap.size w w' := by
 obtain ⟨W0, hW0⟩ : ∃ W0, W0 = w.alloc (.cells #[.int .i64 (N : Int), .slice a bs.length cap, .slice a2 N cap2] 141) := ⟨_, rfl⟩
 have B0 := hidE (show Below w.heap.size w W0 by rw [hW0]; exact (Below.refl _ _).alloc (Nat.le_refl _) _)
 have X0 := hidE (show W0.heap[w.heap.size]? = some (.cells #[.int .i64 (N : Int), .slice a bs.length cap, .slice a2 N cap2] 141 (0,0)) by rw [hW0]; exact heap_alloc_new _ _)
 have hwl2 : (wt.map (-·)).length = N := by rw [List.length_map]; exact hwl
 have hwb2 : ∀ v ∈ wt.map (-·), -1000000 ≤ v ∧ v ≤ 1000000 := fun v hv => by obtain ⟨x, hx, rfl⟩ := List.mem_map.1 hv; have := hwb x hx; omega
 have HOP := hidE (fun (W : World) (hb : Below w.heap.size w W) => show Calls Tryz.prog 79 #[.slice a2 N cap2] W _ by
  have q := opposite_any W a2 cap2 wt (by omega) (hW.below hb (Nat.le_refl _)) hwb
  rw [hwl] at q
  exact q)
 have HBW := hidE (fun (W : World) (A : Option Addr) (hb : Below w.heap.size w W) (hA : IntsAt W A (wt.map (-·))) => best_any W N a cap bs A N (wt.map (-·)) f R h1 hN (by omega) hv (hB.below hb (Nat.le_refl _)) hA hwl2 hwb2 hrun)
 have HNB := hidE (fun r (hr : R = some r) => best_n_bd h1 hN hv hrun hwl2 hwb2 r hr)
 have l0 := lt_of_block X0.out
 clear hv hB hW hwl hwb hrun hwl2 hwb2
 go_enter Tryz.func134, Tryz.ntmps134
 go_upto_region 1 with fail
 rw [← hW0]
 clear hW0
 refine wp_region_F (S := fun V => V.heap[w.heap.size]? = some (.cells #[.int .i64 (N : Int), .slice a bs.length cap, .slice a2 N cap2] 141 (0,0))) (last := 100) (by kernel_rfl) ?_
 have hS0 : W0.drew.heap[w.heap.size]? = some (.cells #[.int .i64 (N : Int), .slice a bs.length cap, .slice a2 N cap2] 141 (0,0)) := X0.out
 refine t_n 0 11 (.pointer (some ⟨w.heap.size, 0, none⟩)) rfl (by kernel_rfl) rfl (fun _ _ _ h => h) (fun V hV => ?_) hS0 ?_
 ·simp [go_sem, execOp]
 try simp only [s_a, s_b, s_c]
 refine t_n 1 12 (.agg #[.int .i64 (N : Int), .slice a bs.length cap]) rfl (by kernel_rfl) rfl (fun _ _ _ h => h) (fun V hV => ?_) hS0 ?_
 ·have z0 : V.cell? ⟨w.heap.size, 0, none⟩ = some (.int .i64 (N : Int)) := c_e hV rfl
  have z1 : V.cell? ⟨w.heap.size, 1, none⟩ = some (.slice a bs.length cap) := c_e hV rfl
  simp [go_sem, execOp, z0, z1]
 try simp only [s_a, s_b, s_c]
 refine t_n 2 13 (.pointer (some ⟨w.heap.size, 2, none⟩)) rfl (by kernel_rfl) rfl (fun _ _ _ h => h) (fun V hV => ?_) hS0 ?_
 ·simp [go_sem, execOp]
 try simp only [s_a, s_b, s_c]
 refine t_n 3 14 (.slice a2 N cap2) rfl (by kernel_rfl) rfl (fun _ _ _ h => h) (fun V hV => ?_) hS0 ?_
 ·have z2 : V.cell? ⟨w.heap.size, 2, none⟩ = some (.slice a2 N cap2) := c_e hV rfl
  simp [go_sem, execOp, z2]
 try simp only [s_a, s_b, s_c]
 refine wpAnyF_step 4 rfl (by kernel_rfl) (fun K hK => ?_)
 go_simp
 go_at_call 79
 refine (HOP.out _ B0.out.drew).mono ?_
 rintro e w2 ⟨rfl, ho2, hb2⟩
 have B2 := hidE (B0.out.trans ((show Below W0.heap.size W0 w2 from (Below.refl _ _).drew.trans hb2).mono B0.out.size))
 have X2 := hidE (blk_below (show Below W0.heap.size W0 w2 from (Below.refl _ _).drew.trans hb2) l0 X0.out)
 have hints : IntsAt w2 (some ⟨W0.heap.size, 0, none⟩) (wt.map (-·)) := ints_row ho2
 have H75 := hidE (HBW.out w2 _ B2.out hints)
 clear hb2 ho2 hints
 go_wp2_with fail
 have hS1 := X2.out
 refine hK.out _ _ (.inr hS1) ?_
 clear hK K
 try simp only [Act.put, s_a, s_b, s_c]
 refine wpAnyF_step 5 rfl (by kernel_rfl) (fun K hK => ?_)
 go_simp
 go_at_call 75
 refine H75.out.mono ?_
 rintro e w3 ⟨hp, hb3⟩
 have BB := hidE (B2.out.trans (hb3.mono B2.out.size))
 have hS2 := blk_below hb3 (lt_of_block X2.out) X2.out
 have hbs := B2.out.size
 clear hb3 H75 hS1 hS0
 cases hR : R with
 | none =>
   rw [hR] at hp
   obtain rfl := hp
   go_wp2_with fail
   refine hK.out _ _ (.inr hS2) ?_
   clear hK K
   try simp only [Act.put, s_a, s_b, s_c]
   refine t_n 6 10 (.tuple #[.int .i64 0, .slice none 0 0, .slice none 0 0, .int .i64 50]) rfl (by kernel_rfl) rfl (fun _ _ _ h => h) (fun V hV => ?_) hS2 ?_
   ·simp [go_sem, execOp]
   try simp only [s_a, s_b, s_c]
   refine t_n 7 17 (.int .i64 0) rfl (by kernel_rfl) rfl (fun _ _ _ h => h) (fun V hV => ?_) hS2 ?_
   ·simp [go_sem, execOp]
   try simp only [s_a, s_b, s_c]
   refine t_n 8 18 (.slice none 0 0) rfl (by kernel_rfl) rfl (fun _ _ _ h => h) (fun V hV => ?_) hS2 ?_
   ·simp [go_sem, execOp]
   try simp only [s_a, s_b, s_c]
   refine t_n 9 19 (.slice none 0 0) rfl (by kernel_rfl) rfl (fun _ _ _ h => h) (fun V hV => ?_) hS2 ?_
   ·simp [go_sem, execOp]
   try simp only [s_a, s_b, s_c]
   refine t_n 10 20 (.int .i64 50) rfl (by kernel_rfl) rfl (fun _ _ _ h => h) (fun V hV => ?_) hS2 ?_
   ·simp [go_sem, execOp]
   try simp only [s_a, s_b, s_c]
   refine t_n 11 6 (.int .i64 0) rfl (by kernel_rfl) rfl (fun _ _ _ h => h) (fun V hV => ?_) hS2 ?_
   ·simp [go_sem, execOp]
   try simp only [s_a, s_b, s_c]
   refine t_n 12 7 (.slice none 0 0) rfl (by kernel_rfl) rfl (fun _ _ _ h => h) (fun V hV => ?_) hS2 ?_
   ·simp [go_sem, execOp]
   try simp only [s_a, s_b, s_c]
   refine t_n 13 8 (.slice none 0 0) rfl (by kernel_rfl) rfl (fun _ _ _ h => h) (fun V hV => ?_) hS2 ?_
   ·simp [go_sem, execOp]
   try simp only [s_a, s_b, s_c]
   refine t_n 14 9 (.int .i64 50) rfl (by kernel_rfl) rfl (fun _ _ _ h => h) (fun V hV => ?_) hS2 ?_
   ·simp [go_sem, execOp]
   try simp only [s_a, s_b, s_c]
   refine wpAnyF_done (by kernel_rfl) ?_ _
   go_wp2_with fail
   refine bodyPost_ret (v := .tuple #[.int .i64 0, .slice none 0 0, .slice none 0 0, .int .i64 50]) (by simp [results, Tryz.results134, go_sem]) rfl ⟨by first | rfl | (rw [hR]; rfl), BB.out⟩
 | some r =>
   rw [hR] at hp
   obtain ⟨gy, gF, rfl, p1, p2, p3, p4, p5⟩ := hp
   have hrb := HNB.out r hR
   have wneg : IntKind.i64.wrap (-r.n) = -r.n := IntWalk.i64_in _ (by omega)
   have P4 := hidE p4
   have P5 := hidE p5
   clear p4 p5
   go_wp2_with fail
   refine hK.out _ _ (.inr hS2) ?_
   clear hK K
   try simp only [Act.put, s_a, s_b, s_c]
   refine t_n 6 10 (.tuple #[.int .i64 r.n, .slice (some ⟨gy, 0, none⟩) r.y.length r.y.length, .slice (some ⟨gF, 0, none⟩) r.flow.length r.flow.length, .int .i64 0]) rfl (by kernel_rfl) rfl (fun _ _ _ h => h) (fun V hV => ?_) hS2 ?_
   ·simp [go_sem, execOp]
   try simp only [s_a, s_b, s_c]
   refine t_n 7 17 (.int .i64 r.n) rfl (by kernel_rfl) rfl (fun _ _ _ h => h) (fun V hV => ?_) hS2 ?_
   ·simp [go_sem, execOp]
   try simp only [s_a, s_b, s_c]
   refine t_n 8 18 (.slice (some ⟨gy, 0, none⟩) r.y.length r.y.length) rfl (by kernel_rfl) rfl (fun _ _ _ h => h) (fun V hV => ?_) hS2 ?_
   ·simp [go_sem, execOp]
   try simp only [s_a, s_b, s_c]
   refine t_n 9 19 (.slice (some ⟨gF, 0, none⟩) r.flow.length r.flow.length) rfl (by kernel_rfl) rfl (fun _ _ _ h => h) (fun V hV => ?_) hS2 ?_
   ·simp [go_sem, execOp]
   try simp only [s_a, s_b, s_c]
   refine t_n 10 20 (.int .i64 0) rfl (by kernel_rfl) rfl (fun _ _ _ h => h) (fun V hV => ?_) hS2 ?_
   ·simp [go_sem, execOp]
   try simp only [s_a, s_b, s_c]
   refine t_n 11 6 (.int .i64 r.n) rfl (by kernel_rfl) rfl (fun _ _ _ h => h) (fun V hV => ?_) hS2 ?_
   ·simp [go_sem, execOp]
   try simp only [s_a, s_b, s_c]
   refine t_n 12 7 (.slice (some ⟨gy, 0, none⟩) r.y.length r.y.length) rfl (by kernel_rfl) rfl (fun _ _ _ h => h) (fun V hV => ?_) hS2 ?_
   ·simp [go_sem, execOp]
   try simp only [s_a, s_b, s_c]
   refine t_n 13 8 (.slice (some ⟨gF, 0, none⟩) r.flow.length r.flow.length) rfl (by kernel_rfl) rfl (fun _ _ _ h => h) (fun V hV => ?_) hS2 ?_
   ·simp [go_sem, execOp]
   try simp only [s_a, s_b, s_c]
   refine t_n 14 9 (.int .i64 0) rfl (by kernel_rfl) rfl (fun _ _ _ h => h) (fun V hV => ?_) hS2 ?_
   ·simp [go_sem, execOp]
   try simp only [s_a, s_b, s_c]
   refine wpAnyF_done (by kernel_rfl) ?_ _
   go_wp2_with fail
   refine bodyPost_ret (v := .tuple #[.int .i64 (-r.n), .slice (some ⟨gy, 0, none⟩) r.y.length r.y.length, .slice (some ⟨gF, 0, none⟩) r.flow.length r.flow.length, .int .i64 0]) (by simp [results, Tryz.results134, go_sem]) rfl ⟨?_, BB.out⟩
   first | exact ⟨gy, gF, rfl, by omega, by omega, p3, P4.out, P5.out⟩ | (rw [hR]; exact ⟨gy, gF, rfl, by omega, by omega, p3, P4.out, P5.out⟩)
theorem sA {α : Type} (l : List α) (i : Nat) (a : α) : l.toArray.setIfInBounds i a = (l.set i a).toArray := List.setIfInBounds_toArray ..
theorem sB {α : Type} (x : α) (l : List α) (n : Nat) (a : α) : (x :: l).set (n + 1) a = x :: l.set n a := List.set_cons_succ ..
theorem sC {α : Type} (x : α) (l : List α) (a : α) : (x :: l).set 0 a = a :: l := List.set_cons_zero ..
def tkB (md : Region.Mode) (ops : Array Oper) (listed : Array Bool) (i d : Nat) : Bool :=
 Region.noSelect ops && Region.free md ops listed i && (Region.ready md ops listed).contains i && (match ops[i]? with | some o => o.dst == some d | none => false)
theorem tkB_spec {md : Region.Mode} {ops : Array Oper} {listed : Array Bool} {i d : Nat} {oi : Oper} (hi : ops[i]? = some oi) (h : tkB md ops listed i d = true) :
 oi.dst = some d ∧ Region.noSelect ops = true ∧ Region.free md ops listed i = true ∧ (Region.ready md ops listed).contains i = true := by
 unfold tkB at h
 rw [hi] at h
 simp only [Bool.and_eq_true, beq_iff_eq] at h
 exact ⟨h.2, h.1.1.1, h.1.1.2, h.1.2⟩
section
variable {P : Program} {ops : Array Oper} {Q : Exit → Act → World → Prop} {md : Region.Mode} {S2 S : World → Prop} {T : Nat → Bool} {last : Nat} {oi : Oper} {fuel : Nat} {listed : Array Bool} {a : Act} {w : World}
theorem tF (i d : Nat) (v : Value) (hi : ops[i]? = some oi) (hB : ((waitsAll md ops last && decide (i ≠ last) || decide (ops.size ≤ last)) && tkB md ops listed i d) = true)
 (hw : Region.wanted oi (yielded ops a.tmps) = true) (hQ : ∀ c a w, Q (.panic c) (a.put oi.dst v) w → Q (.panic c) a w) (hy : ∀ V, S V → (execOp a.eval oi).run P V = .ok (.value v) V) (hS : S w)
 (h : wpAnyF P md ops Q S last fuel (listed.setIfInBounds i true) { a with tmps := a.tmps.setIfInBounds d v } w) : wpAnyF P md ops Q S last (fuel + 1) listed a w := by
 simp only [Bool.and_eq_true, Bool.or_eq_true, decide_eq_true_eq] at hB
 obtain ⟨h1, h2, h3, h4⟩ := tkB_spec hi hB.2
 rcases hB.1 with q | q
 ·exact wpAnyF_takeD q.1 q.2 hi h1 h2 h3 h4 hQ (.inl ⟨hw, hy⟩) hS h
 ·exact wpAnyN_takeD q hi h1 h2 h3 h4 hQ (.inl ⟨hw, hy⟩) hS h
end
theorem ce {w : World} {b i : Nat} {cs : Array Value} {t : TypeId} {v : Value} (h : w.heap[b]? = some (.cells cs t (0,0))) (hv : cs[i]? = some v) : w.cell? ⟨b, i, none⟩ = some v := by
 rw [cell_of_row _ _ _ _ _ _ h]; exact hv
theorem fld4 {w : World} {b : Nat} {c0 c1 c2 c3 : Value} {t : TypeId} (h : w.heap[b]? = some (.cells #[c0, c1, c2, c3] t (0,0))) :
 w.cell? ⟨b, 0, none⟩ = some c0 ∧ w.cell? ⟨b, 1, none⟩ = some c1 ∧ w.cell? ⟨b, 2, none⟩ = some c2 ∧ w.cell? ⟨b, 3, none⟩ = some c3 :=
 ⟨ce h rfl, ce h rfl, ce h rfl, ce h rfl⟩
def Kb : List (Nat × Obj) → World → Prop
 | [], _ => True
 | (b, o) :: L, W => W.heap[b]? = some o ∧ Kb L W
theorem Kb.next {W W' : World} (hb : Below W.heap.size W W') : ∀ {L : List (Nat × Obj)}, Kb L W → Kb L W'
 | [], _ => trivial
 | (_, _) :: _, h => ⟨blk_below hb (lt_of_block h.1) h.1, Kb.next hb h.2⟩
theorem Kb.alloc {W : World} {o : Obj} {L : List (Nat × Obj)} (h : Kb L W) : Kb ((W.heap.size, o) :: L) (W.alloc o) :=
 ⟨heap_alloc_new _ _, Kb.next ((Below.refl _ _).alloc (Nat.le_refl _) _) h⟩
theorem Kb.drew {W : World} {L : List (Nat × Obj)} (h : Kb L W) : Kb L W.drew := Kb.next (Below.refl _ W).drew h
structure FJ (w : World) (x : FV) (F : Fld) (a : Option Addr) (y : List Int) (W : World) : Prop where
 b : Below w.heap.size w W
 blk : W.heap[w.heap.size]? = some (.cells (x.arr F) 46 (0,0))
 fld : FldAt W x F
 ints : IntsAt W a y
theorem FJ.next {w W W' : World} {x : FV} {F : Fld} {a : Option Addr} {y : List Int} (h : FJ w x F a y W) (hb : Below W.heap.size W W') : FJ w x F a y W' :=
 ⟨h.b.trans (hb.mono h.b.size), blk_below hb (lt_of_block h.blk) h.blk, h.fld.below hb, h.ints.below hb (Nat.le_refl _)⟩
theorem FJ.begin {w : World} {x : FV} {F : Fld} {a : Option Addr} {y : List Int} (h : FldAt w x F) (h2 : IntsAt w a y) : FJ w x F a y (w.alloc (.cells (x.arr F) 46)) :=
 ⟨(Below.refl _ _).alloc (Nat.le_refl _) _, heap_alloc_new _ _, h.alloc _, h2.alloc _⟩
theorem FJ.alloc {w W : World} {x : FV} {F : Fld} {a : Option Addr} {y : List Int} (h : FJ w x F a y W) (o : Obj) : FJ w x F a y (W.alloc o) := h.next ((Below.refl _ _).alloc (Nat.le_refl _) _)
theorem FJ.c {w W : World} {x : FV} {F : Fld} {a : Option Addr} {y : List Int} (h : FJ w x F a y W) :
 W.cell? ⟨w.heap.size, 0, none⟩ = some (.slice x.aS F.sts.length x.cS) ∧ W.cell? ⟨w.heap.size, 1, none⟩ = some (.slice x.aL F.lms.length x.cL) ∧ W.cell? ⟨w.heap.size, 2, none⟩ = some (.slice x.aP F.prs.length x.cP) ∧ W.cell? ⟨w.heap.size, 3, none⟩ = some (.slice x.aV F.vrs.length x.cV) := fld4 h.blk
def zExt : Array Value := #[.int .i64 0, .int .i64 0, .slice none 0 0, .slice none 0 0, .slice none 0 0, .slice none 0 0]
def rowVal (g : Nat) (l : List Int) : Value := .slice (some ⟨g, 0, none⟩) l.length l.length
def Xst (S R : Option BestR) (base gX : Nat) : Nat → World → Prop
 | 0, W => W.heap[gX]? = some (.cells zExt 76 (0,0))
 | 1, W => ∃ s gy gF, S = some s ∧ base ≤ gy ∧ base ≤ gF ∧ gy ≠ gX ∧ gF ≠ gX ∧ Kb [(gX, .cells #[.int .i64 (-s.n), .int .i64 0, rowVal gy s.y, .slice none 0 0, rowVal gF s.flow, .slice none 0 0] 76), (gy, .cells (rowA s.y) 3), (gF, .cells (rowA s.flow) 3)] W
 | _, W => ∃ s r gy gF hy hF, S = some s ∧ R = some r ∧ base ≤ gy ∧ base ≤ gF ∧ base ≤ hy ∧ base ≤ hF ∧ gy ≠ gX ∧ gF ≠ gX ∧ hy ≠ gX ∧ hF ≠ gX ∧ Kb [(gX, .cells #[.int .i64 (-s.n), .int .i64 r.n, rowVal gy s.y, rowVal hy r.y, rowVal gF s.flow, rowVal hF r.flow] 76), (gy, .cells (rowA s.y) 3), (gF, .cells (rowA s.flow) 3), (hy, .cells (rowA r.y) 3), (hF, .cells (rowA r.flow) 3)] W
def EndsPost (err : Int) (S R : Option BestR) (base : Nat) (e : Ending) (w' : World) : Prop :=
 (err ≠ 0 ∧ e = .returned (.tuple #[.agg zExt, .int .i64 err])) ∨ (err = 0 ∧ (S = none ∨ R = none) ∧ e = .returned (.tuple #[.agg zExt, .int .i64 50])) ∨
 (err = 0 ∧ ∃ s r gy gF hy hF, S = some s ∧ R = some r ∧ base ≤ gy ∧ base ≤ gF ∧ base ≤ hy ∧ base ≤ hF ∧
  e = .returned (.tuple #[.agg #[.int .i64 (-s.n), .int .i64 r.n, rowVal gy s.y, rowVal hy r.y, rowVal gF s.flow, rowVal hF r.flow], .int .i64 0]) ∧
  Kb [(gy, .cells (rowA s.y) 3), (gF, .cells (rowA s.flow) 3), (hy, .cells (rowA r.y) 3), (hF, .cells (rowA r.flow) 3)] w')
theorem blk_ne {W : World} {a b : Nat} {c d : Array Value} {t u : TypeId} (h : W.heap[a]? = some (.cells c t (0,0))) (k : W.heap[b]? = some (.cells d u (0,0))) (hn : t ≠ u) : a ≠ b := by
 intro e
 rw [e, k] at h
 cases h
 exact hn rfl
theorem Kb.set {W : World} {g i : Nat} {v : Value} : ∀ {L : List (Nat × Obj)}, (∀ p ∈ L, p.1 ≠ g) → Kb L W → Kb L (W.setCell ⟨g, i, none⟩ v)
 | [], _, _ => trivial
 | (_b, _o) :: _L, h, k => ⟨(heap_setCell_other _ _ _ _ (h _ (List.mem_cons_self ..))).trans k.1, Kb.set (fun p hp => h p (List.mem_cons_of_mem _ hp)) k.2⟩
theorem ext_set {W : World} {g : Nat} (h : W.heap[g]? = some (.cells zExt 76 (0,0))) (v0 v1 v2 v3 v4 v5 : Value) :
 ((((((W.setCell ⟨g, 0, none⟩ v0).setCell ⟨g, 1, none⟩ v1).setCell ⟨g, 2, none⟩ v2).setCell ⟨g, 3, none⟩ v3).setCell ⟨g, 4, none⟩ v4).setCell ⟨g, 5, none⟩ v5).heap[g]? = some (.cells #[v0, v1, v2, v3, v4, v5] 76 (0,0)) :=
 heap_setCell_same _ _ 5 _ _ _ (heap_setCell_same _ _ 4 _ _ _ (heap_setCell_same _ _ 3 _ _ _ (heap_setCell_same _ _ 2 _ _ _ (heap_setCell_same _ _ 1 _ _ _ (heap_setCell_same _ _ 0 _ _ _ h)))))
theorem ext_zero {W : World} {g : Nat} (h : W.heap[g]? = some (.cells zExt 76 (0,0))) :
 ((((((W.setCell ⟨g, 0, none⟩ (.int .i64 0)).setCell ⟨g, 1, none⟩ (.int .i64 0)).setCell ⟨g, 2, none⟩ (.slice none 0 0)).setCell ⟨g, 3, none⟩ (.slice none 0 0)).setCell ⟨g, 4, none⟩ (.slice none 0 0)).setCell ⟨g, 5, none⟩ (.slice none 0 0)).heap[g]? = some (.cells zExt 76 (0,0)) :=
 heap_setCell_same _ _ 5 _ _ _ (heap_setCell_same _ _ 4 _ _ _ (heap_setCell_same _ _ 3 _ _ _ (heap_setCell_same _ _ 2 _ _ _ (heap_setCell_same _ _ 1 _ _ _ (heap_setCell_same _ _ 0 _ _ _ h)))))
set_option maxRecDepth 100000 in
set_option maxHeartbeats 4000000 in
theorem ends_any (w : World) (N : Nat) (a : Option Addr) (cap : Nat) (bs : List Bd) (a2 : Option Addr) (cap2 : Nat) (wt : List Int) (f : Nat) (R : Option BestR) (g : Nat) (S : Option BestR) (h1 : 1 ≤ N) (hN : N ≤ 128) (hl : bs.length ≤ 2000) (hv : AllValid N bs)
 (hB : BoundsAt w a bs) (hW : IntsAt w a2 wt) (hwl : wt.length = N) (hwb : ∀ v ∈ wt, -1000000 ≤ v ∧ v ≤ 1000000) (hR : consP N bs = 0 → BestRun N bs wt f R) (hS : consP N bs = 0 → BestRun N bs (wt.map (-·)) g S) :
 Calls Tryz.prog 123 #[.agg #[.int .i64 (N : Int), .slice a bs.length cap, .slice a2 N cap2]] w fun e w' => EndsPost (consP N bs) S R w.heap.size e w' ∧ Below w.heap.size w w' := by
 obtain ⟨w0, hw0⟩ : ∃ W, W = (w.alloc (.cells #[.int .i64 (N : Int), .slice a bs.length cap, .slice a2 N cap2] 141)).alloc (.cells zExt 76) := ⟨_, rfl⟩
 have B0 := hidE (show Below w.heap.size w w0 by rw [hw0]; exact ((Below.refl _ _).alloc (Nat.le_refl _) _).alloc (by simp) _)
 have Q0 := hidE (show Kb [(w.heap.size + 1, .cells zExt 76), (w.heap.size, .cells #[.int .i64 (N : Int), .slice a bs.length cap, .slice a2 N cap2] 141)] w0 by
  have := Kb.alloc (o := .cells zExt 76) (Kb.alloc (o := .cells #[.int .i64 (N : Int), .slice a bs.length cap, .slice a2 N cap2] 141) (L := []) (W := w) trivial)
  rw [hw0]; simpa using this)
 have HCO := hidE (fun (W : World) (hb : Below w.heap.size w W) => consistentA_any W (N : Int) a cap bs ⟨by omega, by omega⟩ (by omega) (hB.below hb (Nat.le_refl _)))
 have HGR := hidE (fun (W : World) (hb : Below w.heap.size w W) z => pgreatest_any W N a cap bs a2 cap2 wt f R h1 hN (by omega) hv (hB.below hb (Nat.le_refl _)) (hW.below hb (Nat.le_refl _)) hwl hwb (hR z))
 have HLE := hidE (fun (W : World) (hb : Below w.heap.size w W) z => pleast_any W N a cap bs a2 cap2 wt g S h1 hN hl hv (hB.below hb (Nat.le_refl _)) (hW.below hb (Nat.le_refl _)) hwl hwb (hS z))
 have c0 := ce (i := 0) Q0.out.2.1 rfl
 have c1 := ce (i := 1) Q0.out.2.1 rfl
 have c2 := ce (i := 2) Q0.out.2.1 rfl
 obtain ⟨E, hE⟩ : ∃ E, consP N bs = E := ⟨_, rfl⟩
 rw [hE] at HCO HGR HLE ⊢
 clear hv hB hW hwl hwb hR hS hE
 unfold zExt at hw0
 by_cases z : E = 0
 ·subst z
  go_enter Tryz.func123, Tryz.ntmps123
  go_upto_region 1 with fail
  rw [← hw0]
  clear hw0
  go_wp2_with fail
  refine (HCO.out _ B0.out).mono ?_
  rintro e w1 ⟨rfl, hb⟩
  have B1 := hidE (B0.out.trans (hb.mono B0.out.size))
  have Q1 := hidE (Q0.out.next hb)
  clear hb HCO c0 c1 c2
  go_upto_region 5 with fail
  obtain ⟨w2, hw2⟩ : ∃ W, W = w1.alloc (.cells zExt 76) := ⟨_, rfl⟩
  unfold zExt at hw2
  rw [← hw2]
  have B2 := hidE (show Below w.heap.size w w2 by rw [hw2]; exact B1.out.alloc B1.out.size _)
  have Q2 := hidE (show Kb [(w1.heap.size, .cells zExt 76), (w.heap.size + 1, .cells zExt 76), (w.heap.size, .cells #[.int .i64 (N : Int), .slice a bs.length cap, .slice a2 N cap2] 141)] w2 by rw [hw2]; exact Kb.alloc (o := .cells zExt 76) Q1.out)
  obtain ⟨gX, hgX⟩ : ∃ g, w1.heap.size = g := ⟨_, rfl⟩
  have HgX := hidE (show w.heap.size + 1 < gX by have := lt_of_block Q1.out.1; omega)
  rw [hgX] at Q2 ⊢
  clear hw2 hgX B1 Q1
  have c0 := ce (i := 0) Q2.out.2.2.1 rfl
  have c1 := ce (i := 1) Q2.out.2.2.1 rfl
  have c2 := ce (i := 2) Q2.out.2.2.1 rfl
  go_wp2_with fail
  obtain ⟨w3, hw3⟩ : ∃ W, W = w2.alloc (.cells #[.func (.func 134) #[.agg #[.int .i64 (N : Int), .slice a bs.length cap, .slice a2 N cap2]] #[], .func (.func 135) #[.agg #[.int .i64 (N : Int), .slice a bs.length cap, .slice a2 N cap2]] #[]] 147) := ⟨_, rfl⟩
  rw [← hw3]
  have B3 := hidE (show Below w.heap.size w w3 by rw [hw3]; exact B2.out.alloc B2.out.size _)
  have Q3 := hidE (show Kb _ w3 by rw [hw3]; exact Kb.alloc (o := .cells #[.func (.func 134) #[.agg #[.int .i64 (N : Int), .slice a bs.length cap, .slice a2 N cap2]] #[], .func (.func 135) #[.agg #[.int .i64 (N : Int), .slice a bs.length cap, .slice a2 N cap2]] #[]] 147) Q2.out)
  obtain ⟨gC, hgC⟩ : ∃ g, w2.heap.size = g := ⟨_, rfl⟩
  have HgC := hidE (show gX < gC by have := lt_of_block Q2.out.1; omega)
  rw [hgC] at Q3 ⊢
  clear hw3 hgC B2 Q2 c0 c1 c2
  obtain ⟨q1, q2, q3, _⟩ := Q3.out
  have HX0 : Hid (Xst S R w.heap.size gX 0 w3) := hidE q2
  have HK0 := hidE (show Kb [(gC, .cells #[.func (.func 134) #[.agg #[.int .i64 (N : Int), .slice a bs.length cap, .slice a2 N cap2]] #[], .func (.func 135) #[.agg #[.int .i64 (N : Int), .slice a bs.length cap, .slice a2 N cap2]] #[]] 147), (w.heap.size + 1, .cells zExt 76)] w3 from ⟨q1, q3, trivial⟩)
  clear q1 q2 q3 Q3
  go_loopw [25] (fun i wr => ∃ k : Nat, k ≤ 2 ∧ i = .int .i64 k ∧ Hid (Below w.heap.size w wr) ∧ Hid (Kb [(gC, .cells #[.func (.func 134) #[.agg #[.int .i64 (N : Int), .slice a bs.length cap, .slice a2 N cap2]] #[], .func (.func 135) #[.agg #[.int .i64 (N : Int), .slice a bs.length cap, .slice a2 N cap2]] #[]] 147), (w.heap.size + 1, .cells zExt 76)] wr) ∧ Hid (Xst S R w.heap.size gX k wr)) (fun i _ => 2 - (intOf i).toNat)
  case atStart => exact ⟨0, by omega, rfl, B3, HK0, HX0⟩
  case round =>
   obtain ⟨k, hk, rfl, HB, HK, HX⟩ := hrel
   obtain ⟨wx, rfl⟩ : ∃ x : World, x = wr := ⟨wr, rfl⟩
   rcases (show k = 0 ∨ k = 1 ∨ k = 2 by omega) with rfl | rfl | rfl
   ·have k0 := ce (i := 0) HK.out.1 rfl
    have HC := hidE (HLE.out wx HB.out trivial)
    have hX : wx.heap[gX]? = some (.cells zExt 76 (0,0)) := HX.out
    have HX1 := hidE hX
    clear hX HX
    go_wp2_with fail
    refine HC.out.mono ?_
    rintro e w4 ⟨hp, hb⟩
    have B4 := hidE (HB.out.trans (hb.mono HB.out.size))
    have K4 := hidE (HK.out.next hb)
    have X4 := hidE (blk_below hb (lt_of_block HX1.out) HX1.out)
    have hsz := HB.out.size
    have hsx := lt_of_block HX1.out
    clear hb HC HB HK HX1 k0
    cases S with
    | none =>
      obtain rfl := hp
      have HZ := hidE K4.out.2.1
      have z0 := ce (i := 0) HZ.out rfl
      have zf0 : w4.frozen? ⟨w.heap.size + 1, 0, none⟩ = false := frozen_of_row _ _ _ _ _ HZ.out
      have z1 := ce (i := 1) HZ.out rfl
      have zf1 : w4.frozen? ⟨w.heap.size + 1, 1, none⟩ = false := frozen_of_row _ _ _ _ _ HZ.out
      have z2 := ce (i := 2) HZ.out rfl
      have zf2 : w4.frozen? ⟨w.heap.size + 1, 2, none⟩ = false := frozen_of_row _ _ _ _ _ HZ.out
      have z3 := ce (i := 3) HZ.out rfl
      have zf3 : w4.frozen? ⟨w.heap.size + 1, 3, none⟩ = false := frozen_of_row _ _ _ _ _ HZ.out
      have z4 := ce (i := 4) HZ.out rfl
      have zf4 : w4.frozen? ⟨w.heap.size + 1, 4, none⟩ = false := frozen_of_row _ _ _ _ _ HZ.out
      have z5 := ce (i := 5) HZ.out rfl
      have zf5 : w4.frozen? ⟨w.heap.size + 1, 5, none⟩ = false := frozen_of_row _ _ _ _ _ HZ.out
      go_wp2_with fail
      try simp only [Exit.noGoto]
      refine bodyPost_ret (v := .tuple #[.agg zExt, .int .i64 50]) (results_cell_row2 Tryz.results123 _ _ (w.heap.size + 1) 76 zExt (0,0) _ rfl (ext_zero HZ.out) Tryz.underlying76 rfl (by kernel_rfl)) rfl ⟨.inr (.inl ⟨rfl, .inl rfl, rfl⟩), (((((B4.out.setCell (by simp) _).setCell (by simp) _).setCell (by simp) _).setCell (by simp) _).setCell (by simp) _).setCell (by simp) _⟩
    | some s =>
      obtain ⟨gy, gF, rfl, p1, p2, p3, p4, p5⟩ := hp
      have P4 := hidE p4
      have P5 := hidE p5
      clear p4 p5
      dsimp only at P4 P5
      have z0 := ce (i := 0) X4.out rfl
      have z2 := ce (i := 2) X4.out rfl
      have z4 := ce (i := 4) X4.out rfl
      have zf0 : w4.frozen? ⟨gX, 0, none⟩ = false := frozen_of_row _ _ _ _ _ X4.out
      have zf2 : w4.frozen? ⟨gX, 2, none⟩ = false := frozen_of_row _ _ _ _ _ X4.out
      have zf4 : w4.frozen? ⟨gX, 4, none⟩ = false := frozen_of_row _ _ _ _ _ X4.out
      go_wp2_with fail
      go_roundw
      case rel =>
       have h1' := HgX.out
       have h2' := HgC.out
       exact ⟨1, by omega, rfl, hidE (((B4.out.setCell (by dsimp only; omega) _).setCell (by dsimp only; omega) _).setCell (by dsimp only; omega) _), hidE (Kb.set (fun p hp => by simp only [List.mem_cons, List.not_mem_nil, or_false] at hp; rcases hp with rfl | rfl <;> (dsimp only; omega)) (Kb.set (fun p hp => by simp only [List.mem_cons, List.not_mem_nil, or_false] at hp; rcases hp with rfl | rfl <;> (dsimp only; omega)) (Kb.set (fun p hp => by simp only [List.mem_cons, List.not_mem_nil, or_false] at hp; rcases hp with rfl | rfl <;> (dsimp only; omega)) K4.out))),
        hidE ⟨s, gy, gF, rfl, by omega, by omega, by omega, by omega, heap_setCell_same _ _ 4 _ _ _ (heap_setCell_same _ _ 2 _ _ _ (heap_setCell_same _ _ 0 _ _ _ X4.out)), Kb.set (fun p hp => by simp only [List.mem_cons, List.not_mem_nil, or_false] at hp; rcases hp with rfl | rfl <;> (dsimp only; omega)) (Kb.set (fun p hp => by simp only [List.mem_cons, List.not_mem_nil, or_false] at hp; rcases hp with rfl | rfl <;> (dsimp only; omega)) (Kb.set (fun p hp => by simp only [List.mem_cons, List.not_mem_nil, or_false] at hp; rcases hp with rfl | rfl <;> (dsimp only; omega)) (show Kb [(gy, .cells (rowA s.y) 3), (gF, .cells (rowA s.flow) 3)] w4 from ⟨P4.out, P5.out, trivial⟩)))⟩⟩
      case measure => simp [intOf]
   ·have k1 := ce (i := 1) HK.out.1 rfl
    have HC := hidE (HGR.out wx HB.out trivial)
    obtain ⟨s, gy, gF, rfl, g1, g2, g3, g4, hX⟩ := (show Xst S R w.heap.size gX 1 wx from HX.out)
    have HX1 := hidE hX
    clear hX HX
    go_wp2_with fail
    refine HC.out.mono ?_
    rintro e w4 ⟨hp, hb⟩
    have B4 := hidE (HB.out.trans (hb.mono HB.out.size))
    have K4 := hidE (HK.out.next hb)
    have X4 := hidE (HX1.out.next hb)
    have hsz := HB.out.size
    have hsx := lt_of_block HX1.out.1
    clear hb HC HB HK HX1 k1
    cases R with
    | none =>
      obtain rfl := hp
      have HZ := hidE K4.out.2.1
      have z0 := ce (i := 0) HZ.out rfl
      have zf0 : w4.frozen? ⟨w.heap.size + 1, 0, none⟩ = false := frozen_of_row _ _ _ _ _ HZ.out
      have z1 := ce (i := 1) HZ.out rfl
      have zf1 : w4.frozen? ⟨w.heap.size + 1, 1, none⟩ = false := frozen_of_row _ _ _ _ _ HZ.out
      have z2 := ce (i := 2) HZ.out rfl
      have zf2 : w4.frozen? ⟨w.heap.size + 1, 2, none⟩ = false := frozen_of_row _ _ _ _ _ HZ.out
      have z3 := ce (i := 3) HZ.out rfl
      have zf3 : w4.frozen? ⟨w.heap.size + 1, 3, none⟩ = false := frozen_of_row _ _ _ _ _ HZ.out
      have z4 := ce (i := 4) HZ.out rfl
      have zf4 : w4.frozen? ⟨w.heap.size + 1, 4, none⟩ = false := frozen_of_row _ _ _ _ _ HZ.out
      have z5 := ce (i := 5) HZ.out rfl
      have zf5 : w4.frozen? ⟨w.heap.size + 1, 5, none⟩ = false := frozen_of_row _ _ _ _ _ HZ.out
      go_wp2_with fail
      try simp only [Exit.noGoto]
      refine bodyPost_ret (v := .tuple #[.agg zExt, .int .i64 50]) (results_cell_row2 Tryz.results123 _ _ (w.heap.size + 1) 76 zExt (0,0) _ rfl (ext_zero HZ.out) Tryz.underlying76 rfl (by kernel_rfl)) rfl ⟨.inr (.inl ⟨rfl, .inr rfl, rfl⟩), (((((B4.out.setCell (by simp) _).setCell (by simp) _).setCell (by simp) _).setCell (by simp) _).setCell (by simp) _).setCell (by simp) _⟩
    | some r =>
      obtain ⟨hy, hF, rfl, p1, p2, p3, p4, p5⟩ := hp
      have P4 := hidE p4
      have P5 := hidE p5
      clear p4 p5
      have z0 := ce (i := 1) X4.out.1 rfl
      have z2 := ce (i := 3) X4.out.1 rfl
      have z4 := ce (i := 5) X4.out.1 rfl
      have zf0 : w4.frozen? ⟨gX, 1, none⟩ = false := frozen_of_row _ _ _ _ _ X4.out.1
      have zf2 : w4.frozen? ⟨gX, 3, none⟩ = false := frozen_of_row _ _ _ _ _ X4.out.1
      have zf4 : w4.frozen? ⟨gX, 5, none⟩ = false := frozen_of_row _ _ _ _ _ X4.out.1
      go_wp2_with fail
      go_roundw
      case rel =>
       have h1' := HgX.out
       have h2' := HgC.out
       exact ⟨2, by omega, rfl, hidE (((B4.out.setCell (by dsimp only; omega) _).setCell (by dsimp only; omega) _).setCell (by dsimp only; omega) _), hidE (Kb.set (fun p hp => by simp only [List.mem_cons, List.not_mem_nil, or_false] at hp; rcases hp with rfl | rfl <;> (dsimp only; omega)) (Kb.set (fun p hp => by simp only [List.mem_cons, List.not_mem_nil, or_false] at hp; rcases hp with rfl | rfl <;> (dsimp only; omega)) (Kb.set (fun p hp => by simp only [List.mem_cons, List.not_mem_nil, or_false] at hp; rcases hp with rfl | rfl <;> (dsimp only; omega)) K4.out))),
        hidE ⟨s, r, gy, gF, hy, hF, rfl, rfl, by omega, by omega, by omega, by omega, by omega, by omega, by omega, by omega, heap_setCell_same _ _ 5 _ _ _ (heap_setCell_same _ _ 3 _ _ _ (heap_setCell_same _ _ 1 _ _ _ X4.out.1)), Kb.set (fun p hp => by simp only [List.mem_cons, List.not_mem_nil, or_false] at hp; rcases hp with rfl | rfl | rfl | rfl <;> (dsimp only; omega)) (Kb.set (fun p hp => by simp only [List.mem_cons, List.not_mem_nil, or_false] at hp; rcases hp with rfl | rfl | rfl | rfl <;> (dsimp only; omega)) (Kb.set (fun p hp => by simp only [List.mem_cons, List.not_mem_nil, or_false] at hp; rcases hp with rfl | rfl | rfl | rfl <;> (dsimp only; omega)) (show Kb [(gy, .cells (rowA s.y) 3), (gF, .cells (rowA s.flow) 3), (hy, .cells (rowA r.y) 3), (hF, .cells (rowA r.flow) 3)] w4 from ⟨X4.out.2.1, X4.out.2.2.1, P4.out, P5.out, trivial⟩)))⟩⟩
      case measure => simp [intOf]
   ·obtain ⟨s, r, gy, gF, hy, hF, rfl, rfl, g1, g2, g3, g4, g5, g6, g7, g8, hX⟩ := (show Xst S R w.heap.size gX 2 wx from HX.out)
    have HX1 := hidE hX
    clear hX HX
    unfold rowVal at HX1
    have HZ := hidE HK.out.2.1
    have z0 := ce (i := 0) HZ.out rfl
    have zf0 : wx.frozen? ⟨w.heap.size + 1, 0, none⟩ = false := frozen_of_row _ _ _ _ _ HZ.out
    have z1 := ce (i := 1) HZ.out rfl
    have zf1 : wx.frozen? ⟨w.heap.size + 1, 1, none⟩ = false := frozen_of_row _ _ _ _ _ HZ.out
    have z2 := ce (i := 2) HZ.out rfl
    have zf2 : wx.frozen? ⟨w.heap.size + 1, 2, none⟩ = false := frozen_of_row _ _ _ _ _ HZ.out
    have z3 := ce (i := 3) HZ.out rfl
    have zf3 : wx.frozen? ⟨w.heap.size + 1, 3, none⟩ = false := frozen_of_row _ _ _ _ _ HZ.out
    have z4 := ce (i := 4) HZ.out rfl
    have zf4 : wx.frozen? ⟨w.heap.size + 1, 4, none⟩ = false := frozen_of_row _ _ _ _ _ HZ.out
    have z5 := ce (i := 5) HZ.out rfl
    have zf5 : wx.frozen? ⟨w.heap.size + 1, 5, none⟩ = false := frozen_of_row _ _ _ _ _ HZ.out
    have x0 := ce (i := 0) HX1.out.1 rfl
    have x1 := ce (i := 1) HX1.out.1 rfl
    have x2 := ce (i := 2) HX1.out.1 rfl
    have x3 := ce (i := 3) HX1.out.1 rfl
    have x4 := ce (i := 4) HX1.out.1 rfl
    have x5 := ce (i := 5) HX1.out.1 rfl
    go_wp2_with fail
    try simp only [Exit.noGoto]
    obtain ⟨b1, b2, b3, b4, _⟩ := HX1.out.2
    have n1 := blk_ne b1 HZ.out (by decide)
    have n2 := blk_ne b2 HZ.out (by decide)
    have n3 := blk_ne b3 HZ.out (by decide)
    have n4 := blk_ne b4 HZ.out (by decide)
    have HNE : ∀ p ∈ [(gy, Obj.cells (rowA s.y) 3), (gF, .cells (rowA s.flow) 3), (hy, .cells (rowA r.y) 3), (hF, .cells (rowA r.flow) 3)], p.1 ≠ w.heap.size + 1 := (fun p hp => by simp only [List.mem_cons, List.not_mem_nil, or_false] at hp; rcases hp with rfl | rfl | rfl | rfl <;> assumption)
    refine bodyPost_ret (v := .tuple #[.agg #[.int .i64 (-s.n), .int .i64 r.n, rowVal gy s.y, rowVal hy r.y, rowVal gF s.flow, rowVal hF r.flow], .int .i64 0]) (results_cell_row2 Tryz.results123 _ _ (w.heap.size + 1) 76 _ (0,0) _ rfl (ext_set HZ.out _ _ _ _ _ _) Tryz.underlying76 rfl (by kernel_rfl)) rfl ⟨.inr (.inr ⟨rfl, s, r, gy, gF, hy, hF, rfl, rfl, g1, g2, g3, g4, rfl, Kb.set HNE (Kb.set HNE (Kb.set HNE (Kb.set HNE (Kb.set HNE (Kb.set HNE (HX1.out.2))))))⟩), (((((HB.out.setCell (by simp) _).setCell (by simp) _).setCell (by simp) _).setCell (by simp) _).setCell (by simp) _).setCell (by simp) _⟩
 ·have zb : (E != 0) = true := by simpa using z
  go_enter Tryz.func123, Tryz.ntmps123
  go_upto_region 1 with fail
  rw [← hw0]
  clear hw0
  go_wp2_with fail
  refine (HCO.out _ B0.out).mono ?_
  rintro e w1 ⟨rfl, hb⟩
  have B1 := hidE (B0.out.trans (hb.mono B0.out.size))
  have HZ := hidE (Q0.out.next hb).1
  clear hb HCO c0 c1 c2
  have z0 := ce (i := 0) HZ.out rfl
  have zf0 : w1.frozen? ⟨w.heap.size + 1, 0, none⟩ = false := frozen_of_row _ _ _ _ _ HZ.out
  have z1 := ce (i := 1) HZ.out rfl
  have zf1 : w1.frozen? ⟨w.heap.size + 1, 1, none⟩ = false := frozen_of_row _ _ _ _ _ HZ.out
  have z2 := ce (i := 2) HZ.out rfl
  have zf2 : w1.frozen? ⟨w.heap.size + 1, 2, none⟩ = false := frozen_of_row _ _ _ _ _ HZ.out
  have z3 := ce (i := 3) HZ.out rfl
  have zf3 : w1.frozen? ⟨w.heap.size + 1, 3, none⟩ = false := frozen_of_row _ _ _ _ _ HZ.out
  have z4 := ce (i := 4) HZ.out rfl
  have zf4 : w1.frozen? ⟨w.heap.size + 1, 4, none⟩ = false := frozen_of_row _ _ _ _ _ HZ.out
  have z5 := ce (i := 5) HZ.out rfl
  have zf5 : w1.frozen? ⟨w.heap.size + 1, 5, none⟩ = false := frozen_of_row _ _ _ _ _ HZ.out
  go_wp2_with fail
  try simp only [Exit.noGoto]
  refine bodyPost_ret (v := .tuple #[.agg zExt, .int .i64 E]) (results_cell_row2 Tryz.results123 _ _ (w.heap.size + 1) 76 zExt (0,0) _ rfl (ext_zero HZ.out) Tryz.underlying76 rfl (by kernel_rfl)) rfl ⟨.inl ⟨z, rfl⟩, (((((B1.out.setCell (by simp) _).setCell (by simp) _).setCell (by simp) _).setCell (by simp) _).setCell (by simp) _).setCell (by simp) _⟩
set_option maxRecDepth 100000 in
set_option maxHeartbeats 2000000 in
theorem parcelled_any (w : World) (x : FV) (F : Fld) (i : Int) (h : FldAt w x F) :
 Calls Tryz.prog 119 #[x.val F, .int .i64 i] w fun e w' => e = .returned (.int .i64 (fieldedE F [i])) ∧ Below w.heap.size w w' := by
 have B0 := hidE (show Below w.heap.size w (w.alloc (.cells (x.arr F) 46)) from (Below.refl _ _).alloc (Nat.le_refl _) _)
 have X0 := hidE (heap_alloc_new w (.cells (x.arr F) 46))
 have l0 : w.heap.size < (w.alloc (.cells (x.arr F) 46)).heap.size := by simp
 have HCF := hidE (refCheckField_any (w.alloc (.cells (x.arr F) 46)) x F (h.alloc _))
 have hlp := h.lp
 obtain ⟨Q, hQ⟩ : ∃ Q, fieldedE F [i] = Q := ⟨_, rfl⟩
 rw [hQ]
 unfold fieldedE at hQ
 obtain ⟨c, hc⟩ : ∃ c, F.check = c := ⟨_, rfl⟩
 rw [hc] at hQ HCF
 by_cases hz : c = 0
 ·subst hz
  rw [if_neg (by omega)] at hQ
  simp only [List.all_cons, List.all_nil, Bool.and_true] at hQ
  have HQ := hidE hQ
  clear hQ hc h
  unfold FV.val FV.arr at *
  go_enter Tryz.func119, Tryz.ntmps119
  go_wp2_with fail
  refine HCF.out.mono ?_
  rintro e w1 ⟨rfl, hb1⟩
  have B1 := hidE (B0.out.trans (hb1.mono B0.out.size))
  have X1 := hidE (blk_below hb1 l0 X0.out)
  have c2 : w1.cell? ⟨w.heap.size, 2, none⟩ = some (.slice x.aP F.prs.length x.cP) := c_e X1.out rfl
  clear hb1
  by_cases q1 : i < 0
  ·have d1 : decide (i < 0) = true := by simpa using q1
   obtain rfl : (1 : Int) = Q := by rw [← HQ.out]; unfold inR; simp; omega
   clear q1
   go_wp2_with fail
   go_ret
   exact ⟨rfl, B1.out⟩
  ·have d1 : decide (i < 0) = false := by simpa using q1
   by_cases q2 : i ≥ (F.prs.length : Int)
   ·have d2 : decide (i ≥ (F.prs.length : Int)) = true := by simpa using q2
    have d2' : decide ((F.prs.length : Int) ≤ i) = true := by simpa using q2
    obtain rfl : (1 : Int) = Q := by rw [← HQ.out]; unfold inR; simp; omega
    clear q1 q2
    go_wp2_with fail
    go_ret
    exact ⟨rfl, B1.out⟩
   ·have d2 : decide (i ≥ (F.prs.length : Int)) = false := by simpa using q2
    have d2' : decide ((F.prs.length : Int) ≤ i) = false := by simpa using q2
    obtain rfl : (0 : Int) = Q := by rw [← HQ.out]; unfold inR; simp; omega
    clear q1 q2
    go_wp2_with fail
    go_ret
    exact ⟨rfl, B1.out⟩
 ·rw [if_pos hz] at hQ
  obtain rfl : c = Q := hQ
  have hzb : (c != 0) = true := by simpa using hz
  clear hz hc h
  unfold FV.val FV.arr at *
  go_enter Tryz.func119, Tryz.ntmps119
  go_wp2_with fail
  refine HCF.out.mono ?_
  rintro e w1 ⟨rfl, hb1⟩
  have B1 := hidE (B0.out.trans (hb1.mono B0.out.size))
  clear hb1
  go_wp2_with fail
  go_ret
  exact ⟨rfl, B1.out⟩
set_option maxRecDepth 100000 in
set_option maxHeartbeats 2000000 in
theorem rweightsE_any (w : World) (x : FV) (F : Fld) (i : Int) (h : FldAt w x F) : Calls Tryz.prog 50 #[x.val F, .int .i64 i] w fun e w' => PathPost (weightsE F i).1 (weightsE F i).2 w.heap.size e w' ∧ Below w.heap.size w w' := by
 have B0 := hidE (show Below w.heap.size w (w.alloc (.cells (x.arr F) 46)) from (Below.refl _ _).alloc (Nat.le_refl _) _)
 have X0 := hidE (heap_alloc_new w (.cells (x.arr F) 46))
 have l0 : w.heap.size < (w.alloc (.cells (x.arr F) 46)).heap.size := by simp
 have HFI := hidE (fun (W : World) (hb : Below w.heap.size w W) => parcelled_any W x F i (h.below hb))
 obtain ⟨P1, hP1⟩ : ∃ z, (weightsE F i).1 = z := ⟨_, rfl⟩
 obtain ⟨P2, hP2⟩ : ∃ z, (weightsE F i).2 = z := ⟨_, rfl⟩
 rw [hP1, hP2]
 unfold weightsE at hP1 hP2
 by_cases hz : fieldedE F [i] = 0
 ·obtain ⟨hc, n, rfl, hn, hpar⟩ := fielded_one hz
  rw [if_neg (by omega)] at hP1 hP2
  rw [hz] at HFI
  have HWT := hidE (fun (W : World) (hb : Below w.heap.size w W) => rweights_any W x F n hc hn (h.below hb))
  rw [hpar] at hP1
  rw [show weightsOf F F.prs[n] = P1 from hP1] at HWT
  have hln : F.points.toNat = P1.length := by rw [← hP1, weightsOf_len]
  rw [hln] at HWT
  have hsm := points_nat hc
  have HSM := hidE (show P1.length ≤ 1000 by omega)
  obtain rfl : (0 : Int) = P2 := hP2
  clear hz hpar hP1 hln h hsm hc hn
  unfold FV.val FV.arr at *
  go_enter Tryz.func50, Tryz.ntmps50
  go_wp2_with fail
  refine (HFI.out _ B0.out).mono ?_
  rintro e w1 ⟨rfl, hb1⟩
  have B1 := hidE (B0.out.trans (hb1.mono B0.out.size))
  have X1 := hidE (blk_below hb1 l0 X0.out)
  have l1 := lt_of_block X1.out
  have f0_1 : w1.cell? ⟨w.heap.size, 0, none⟩ = some (.slice x.aS F.sts.length x.cS) := c_e X1.out rfl
  have f1_1 : w1.cell? ⟨w.heap.size, 1, none⟩ = some (.slice x.aL F.lms.length x.cL) := c_e X1.out rfl
  have f2_1 : w1.cell? ⟨w.heap.size, 2, none⟩ = some (.slice x.aP F.prs.length x.cP) := c_e X1.out rfl
  have f3_1 : w1.cell? ⟨w.heap.size, 3, none⟩ = some (.slice x.aV F.vrs.length x.cV) := c_e X1.out rfl
  clear hb1
  go_wp2_with fail
  refine (HWT.out _ B1.out).mono ?_
  rintro e w2 ⟨g, rfl, hg, hgb, hb2⟩
  have B2 := hidE (B1.out.trans (hb2.mono B1.out.size))
  clear hb2 f0_1 f1_1 f2_1 f3_1
  go_wp2_with fail
  go_ret2
  exact ⟨⟨_, rfl, owns_of_block (Nat.le_trans B1.out.size hgb) hg (by have := HSM.out; omega)⟩, B2.out⟩
 ·rw [if_pos hz] at hP1 hP2
  obtain rfl : [] = P1 := hP1
  have hzb : (P2 != 0) = true := by rw [← hP2]; simpa using hz
  rw [show fieldedE F [i] = P2 from hP2] at HFI
  clear hz hP2 h
  unfold FV.val FV.arr at *
  go_enter Tryz.func50, Tryz.ntmps50
  go_wp2_with fail
  refine (HFI.out _ B0.out).mono ?_
  rintro e w1 ⟨rfl, hb1⟩
  have B1 := hidE (B0.out.trans (hb1.mono B0.out.size))
  have X1 := hidE (blk_below hb1 l0 X0.out)
  have l1 := lt_of_block X1.out
  have f0_1 : w1.cell? ⟨w.heap.size, 0, none⟩ = some (.slice x.aS F.sts.length x.cS) := c_e X1.out rfl
  have f1_1 : w1.cell? ⟨w.heap.size, 1, none⟩ = some (.slice x.aL F.lms.length x.cL) := c_e X1.out rfl
  have f2_1 : w1.cell? ⟨w.heap.size, 2, none⟩ = some (.slice x.aP F.prs.length x.cP) := c_e X1.out rfl
  have f3_1 : w1.cell? ⟨w.heap.size, 3, none⟩ = some (.slice x.aV F.vrs.length x.cV) := c_e X1.out rfl
  clear hb1
  go_wp2_with fail
  go_ret2
  exact ⟨⟨_, rfl, World.ownsRow_nil _ _ _ _⟩, B1.out⟩
theorem first_any (w : World) (a : Option Addr) (cap : Nat) (x : List Int) (hl : x.length ≤ 4000) (h : IntsAt w a x) :
 Calls Tryz.prog 132 #[.slice a x.length cap] w fun e w' => e = .returned (.int .i64 (orP x)) ∧ w = w' := by
 have HO := hidE (or_any w a cap x hl h)
 clear h
 go_enter Tryz.func132, Tryz.ntmps132
 go_wp2_with fail
 refine HO.out.mono ?_
 rintro e w1 ⟨rfl, rfl⟩
 go_wp2_with fail
 go_ret
 exact ⟨rfl, rfl⟩
def fitE (F : Fld) (N : Int) (bs : List Bd) (ps : List Int) : Int := if F.check ≠ 0 then F.check else if checkP N bs ≠ 0 then checkP N bs else if N = F.points then fieldedE F ps else 1
theorem two_ints (W : World) (a b : Int) (t : TypeId) : IntsAt (W.alloc (.cells #[.int .i64 a, .int .i64 b] t)) (some ⟨W.heap.size, 0, none⟩) [a, b] := .inr ⟨W.heap.size, 0, rfl, by simp, fun j hj => by
 have hj2 : j = 0 ∨ j = 1 := by simp at hj; omega
 rcases hj2 with rfl | rfl <;> rw [cell_of_row _ _ _ _ _ _ (heap_alloc_new W _)] <;> rfl⟩
set_option maxRecDepth 100000 in
set_option maxHeartbeats 4000000 in
theorem fitting_any (w : World) (x : FV) (F : Fld) (N : Int) (a : Option Addr) (cap : Nat) (bs : List Bd) (a2 : Option Addr) (cap2 : Nat) (ps : List Int) (hF : FldAt w x F) (hN : i64ok N) (hl : bs.length ≤ 9223372036854775807) (h : BoundsAt w a bs) (hps : ps.length ≤ 4000) (h2 : IntsAt w a2 ps) :
 Calls Tryz.prog 122 #[x.val F, .agg #[.int .i64 N, .slice a bs.length cap], .slice a2 ps.length cap2] w fun e w' => e = .returned (.int .i64 (fitE F N bs ps)) ∧ Below w.heap.size w w' := by
 obtain ⟨W0, hW0⟩ : ∃ W0, W0 = (w.alloc (.cells (x.arr F) 46)).alloc (.cells #[.int .i64 N, .slice a bs.length cap] 24) := ⟨_, rfl⟩
 have B0 := hidE (show Below w.heap.size w W0 by rw [hW0]; exact ((Below.refl _ _).alloc (Nat.le_refl _) _).alloc (by simp) _)
 have X0 := hidE (show W0.heap[w.heap.size]? = some (.cells (x.arr F) 46 (0,0)) by rw [hW0]; exact heap_alloc2_old _ _ _)
 have S0 := hidE (show W0.heap[w.heap.size + 1]? = some (.cells #[.int .i64 N, .slice a bs.length cap] 24 (0,0)) by rw [hW0, heap_alloc2_new])
 have l0 : w.heap.size < W0.heap.size := lt_of_block X0.out
 have m0 : w.heap.size + 1 < W0.heap.size := lt_of_block S0.out
 have HCF := hidE (fun (W : World) (hb : Below w.heap.size w W) => checkField_any W x F (hF.below hb))
 have HCK := hidE (fun (W : World) (hb : Below w.heap.size w W) => check_any W N a cap bs hN hl (h.below hb (Nat.le_refl _)))
 have HPT := hidE (fun (W : World) (hb : Below w.heap.size w W) => pointsE_any W x F (hF.below hb))
 have HFI := hidE (fun (W : World) (hb : Below w.heap.size w W) => fielded_any W x F a2 cap2 ps hps (hF.below hb) (h2.below hb (Nat.le_refl _)))
 have hpe : F.check = 0 → pointsE F = F.points := fun e => by unfold pointsE; rw [if_neg (by omega)]
 obtain ⟨Q, hQ⟩ : ∃ Q, fitE F N bs ps = Q := ⟨_, rfl⟩
 rw [hQ]
 unfold fitE at hQ
 obtain ⟨c, hc⟩ : ∃ c, F.check = c := ⟨_, rfl⟩
 obtain ⟨c2, hc2⟩ : ∃ c, checkP N bs = c := ⟨_, rfl⟩
 obtain ⟨c3, hc3⟩ : ∃ c, fieldedE F ps = c := ⟨_, rfl⟩
 obtain ⟨P, hP⟩ : ∃ P, pointsE F = P := ⟨_, rfl⟩
 rw [hc] at HCF
 rw [hc2] at HCK
 rw [hc3] at HFI
 rw [hP] at HPT
 rw [hc, hc2, hc3] at hQ
 rw [hc, hP] at hpe
 have HPE := hidE hpe
 clear hc hc2 hc3 hP hpe hF h h2
 by_cases hz : c ≠ 0
 ·obtain rfl : c = Q := by rw [if_pos hz] at hQ; exact hQ
  have hzb : (c != 0) = true := by simpa using hz
  clear hz hQ
  unfold FV.val FV.arr at *
  go_enter Tryz.func122, Tryz.ntmps122
  go_upto_region 1 with fail
  rw [← hW0]
  have f0 : W0.cell? ⟨w.heap.size, 0, none⟩ = some (.slice x.aS F.sts.length x.cS) := c_e X0.out rfl
  have f1 : W0.cell? ⟨w.heap.size, 1, none⟩ = some (.slice x.aL F.lms.length x.cL) := c_e X0.out rfl
  have f2 : W0.cell? ⟨w.heap.size, 2, none⟩ = some (.slice x.aP F.prs.length x.cP) := c_e X0.out rfl
  have f3 : W0.cell? ⟨w.heap.size, 3, none⟩ = some (.slice x.aV F.vrs.length x.cV) := c_e X0.out rfl
  clear hW0
  go_wp2_with fail
  refine (HCF.out _ B0.out).mono ?_
  rintro e w1 ⟨rfl, hb1⟩
  have B1 := hidE (B0.out.trans (hb1.mono B0.out.size))
  clear hb1
  go_wp2_with fail
  go_ret
  exact ⟨rfl, B1.out⟩
 obtain rfl : c = 0 := Classical.not_not.1 hz
 rw [if_neg hz] at hQ
 have HPE2 := hidE (HPE.out rfl)
 clear hz HPE
 by_cases hz2 : c2 ≠ 0
 ·obtain rfl : c2 = Q := by rw [if_pos hz2] at hQ; exact hQ
  have hzb : (c2 != 0) = true := by simpa using hz2
  clear hz2 hQ
  unfold FV.val FV.arr at *
  go_enter Tryz.func122, Tryz.ntmps122
  go_upto_region 1 with fail
  rw [← hW0]
  have f0 : W0.cell? ⟨w.heap.size, 0, none⟩ = some (.slice x.aS F.sts.length x.cS) := c_e X0.out rfl
  have f1 : W0.cell? ⟨w.heap.size, 1, none⟩ = some (.slice x.aL F.lms.length x.cL) := c_e X0.out rfl
  have f2 : W0.cell? ⟨w.heap.size, 2, none⟩ = some (.slice x.aP F.prs.length x.cP) := c_e X0.out rfl
  have f3 : W0.cell? ⟨w.heap.size, 3, none⟩ = some (.slice x.aV F.vrs.length x.cV) := c_e X0.out rfl
  clear hW0
  go_wp2_with fail
  refine (HCF.out _ B0.out).mono ?_
  rintro e w1 ⟨rfl, hb1⟩
  have B1 := hidE (B0.out.trans (hb1.mono B0.out.size))
  have S1 := hidE (blk_below hb1 m0 S0.out)
  have g0 : w1.cell? ⟨w.heap.size + 1, 0, none⟩ = some (.int .i64 N) := c_e S1.out rfl
  have g1 : w1.cell? ⟨w.heap.size + 1, 1, none⟩ = some (.slice a bs.length cap) := c_e S1.out rfl
  clear hb1 f0 f1 f2 f3
  go_wp2_with fail
  refine (HCK.out _ B1.out).mono ?_
  rintro e w2 ⟨rfl, hb2⟩
  have B2 := hidE (B1.out.trans (hb2.mono B1.out.size))
  clear hb2
  go_wp2_with fail
  go_ret
  exact ⟨rfl, B2.out⟩
 obtain rfl : c2 = 0 := Classical.not_not.1 hz2
 rw [if_neg hz2] at hQ
 clear hz2
 obtain ⟨r1, hr1⟩ : ∃ r : Int, (if (N == P) then (0 : Int) else 1) = r := ⟨_, rfl⟩
 have HQ : Hid (orP [r1, c3] = Q) := hidE (by
  rw [← hQ, ← hr1, HPE2.out]
  by_cases e : N = F.points
  ·rw [if_pos e]; simp only [orP, e, beq_self_eq_true, if_true]; split <;> simp_all
  ·rw [if_neg e]; simp [orP, e])
 have HRT := hidE (fun W => right_any (N == P) W)
 rw [hr1] at HRT
 clear hQ hr1
 unfold FV.val FV.arr at *
 go_enter Tryz.func122, Tryz.ntmps122
 go_upto_region 1 with fail
 rw [← hW0]
 have f0 : W0.cell? ⟨w.heap.size, 0, none⟩ = some (.slice x.aS F.sts.length x.cS) := c_e X0.out rfl
 have f1 : W0.cell? ⟨w.heap.size, 1, none⟩ = some (.slice x.aL F.lms.length x.cL) := c_e X0.out rfl
 have f2 : W0.cell? ⟨w.heap.size, 2, none⟩ = some (.slice x.aP F.prs.length x.cP) := c_e X0.out rfl
 have f3 : W0.cell? ⟨w.heap.size, 3, none⟩ = some (.slice x.aV F.vrs.length x.cV) := c_e X0.out rfl
 clear hW0
 go_wp2_with fail
 refine (HCF.out _ B0.out).mono ?_
 rintro e w1 ⟨rfl, hb1⟩
 have B1 := hidE (B0.out.trans (hb1.mono B0.out.size))
 have S1 := hidE (blk_below hb1 m0 S0.out)
 have X1 := hidE (blk_below hb1 l0 X0.out)
 have l1 := lt_of_block X1.out
 have m1 := lt_of_block S1.out
 have g0 : w1.cell? ⟨w.heap.size + 1, 0, none⟩ = some (.int .i64 N) := c_e S1.out rfl
 have g1 : w1.cell? ⟨w.heap.size + 1, 1, none⟩ = some (.slice a bs.length cap) := c_e S1.out rfl
 clear hb1 f0 f1 f2 f3
 go_wp2_with fail
 refine (HCK.out _ B1.out).mono ?_
 rintro e w2 ⟨rfl, hb2⟩
 have B2 := hidE (B1.out.trans (hb2.mono B1.out.size))
 have S2 := hidE (blk_below hb2 m1 S1.out)
 have X2 := hidE (blk_below hb2 l1 X1.out)
 clear hb2 g0 g1 l1 m1
 go_upto_region 7 with fail
 have l2 := lt_of_block X2.out
 have hS0 : w2.drew.heap[w.heap.size]? = some (.cells #[.slice x.aS F.sts.length x.cS, .slice x.aL F.lms.length x.cL, .slice x.aP F.prs.length x.cP, .slice x.aV F.vrs.length x.cV] 46 (0,0)) ∧ w2.drew.heap[w.heap.size + 1]? = some (.cells #[.int .i64 N, .slice a bs.length cap] 24 (0,0)) := ⟨X2.out, S2.out⟩
 refine wp_region_F (S := fun V => V.heap[w.heap.size]? = some (.cells #[.slice x.aS F.sts.length x.cS, .slice x.aL F.lms.length x.cL, .slice x.aP F.prs.length x.cP, .slice x.aV F.vrs.length x.cV] 46 (0,0)) ∧ V.heap[w.heap.size + 1]? = some (.cells #[.int .i64 N, .slice a bs.length cap] 24 (0,0))) (last := 11) (by kernel_rfl) ?_
 refine wpAnyF_take (i := 0) (v := .pointer (some ⟨w.heap.size + 1, 0, none⟩)) (by kernel_rfl) (by decide) rfl (by kernel_rfl) (by kernel_rfl) (by kernel_rfl) (fun _ _ _ h => h) (.inl ⟨rfl, fun V hV => ?_⟩) hS0 ?_
 ·simp [go_sem, execOp]
 try simp only [Act.put, List.setIfInBounds_toArray]
 refine wpAnyF_take (i := 1) (v := .int .i64 N) (by kernel_rfl) (by decide) rfl (by kernel_rfl) (by kernel_rfl) (by kernel_rfl) (fun _ _ _ h => h) (.inl ⟨rfl, fun V hV => ?_⟩) hS0 ?_
 ·have z0 : V.cell? ⟨w.heap.size + 1, 0, none⟩ = some (.int .i64 N) := c_e hV.2 rfl
  simp [go_sem, execOp, z0]
 try simp only [Act.put]
 refine wpAnyF_take (i := 2) (v := .agg #[.slice x.aS F.sts.length x.cS, .slice x.aL F.lms.length x.cL, .slice x.aP F.prs.length x.cP, .slice x.aV F.vrs.length x.cV]) (by kernel_rfl) (by decide) rfl (by kernel_rfl) (by kernel_rfl) (by kernel_rfl) (fun _ _ _ h => h) (.inl ⟨rfl, fun V hV => ?_⟩) hS0 ?_
 ·have z0 : V.cell? ⟨w.heap.size, 0, none⟩ = some (.slice x.aS F.sts.length x.cS) := c_e hV.1 rfl
  have z1 : V.cell? ⟨w.heap.size, 1, none⟩ = some (.slice x.aL F.lms.length x.cL) := c_e hV.1 rfl
  have z2 : V.cell? ⟨w.heap.size, 2, none⟩ = some (.slice x.aP F.prs.length x.cP) := c_e hV.1 rfl
  have z3 : V.cell? ⟨w.heap.size, 3, none⟩ = some (.slice x.aV F.vrs.length x.cV) := c_e hV.1 rfl
  simp [go_sem, execOp, z0, z1, z2, z3]
 try simp only [Act.put]
 refine wpAnyF_take (i := 6) (v := .agg #[.slice x.aS F.sts.length x.cS, .slice x.aL F.lms.length x.cL, .slice x.aP F.prs.length x.cP, .slice x.aV F.vrs.length x.cV]) (by kernel_rfl) (by decide) rfl (by kernel_rfl) (by kernel_rfl) (by kernel_rfl) (fun _ _ _ h => h) (.inl ⟨rfl, fun V hV => ?_⟩) hS0 ?_
 ·have z0 : V.cell? ⟨w.heap.size, 0, none⟩ = some (.slice x.aS F.sts.length x.cS) := c_e hV.1 rfl
  have z1 : V.cell? ⟨w.heap.size, 1, none⟩ = some (.slice x.aL F.lms.length x.cL) := c_e hV.1 rfl
  have z2 : V.cell? ⟨w.heap.size, 2, none⟩ = some (.slice x.aP F.prs.length x.cP) := c_e hV.1 rfl
  have z3 : V.cell? ⟨w.heap.size, 3, none⟩ = some (.slice x.aV F.vrs.length x.cV) := c_e hV.1 rfl
  simp [go_sem, execOp, z0, z1, z2, z3]
 try simp only [Act.put]
 refine wpAnyF_take (i := 7) (v := .slice a2 ps.length cap2) (by kernel_rfl) (by decide) rfl (by kernel_rfl) (by kernel_rfl) (by kernel_rfl) (fun _ _ _ h => h) (.inl ⟨rfl, fun V hV => ?_⟩) hS0 ?_
 ·simp [go_sem, execOp]
 try simp only [Act.put]
 refine wpAnyF_step 3 rfl (by kernel_rfl) (fun K hK => ?_)
 go_simp
 go_at_call 106
 refine (HPT.out _ B2.out.drew).mono ?_
 rintro e w3 ⟨rfl, hb3⟩
 have B3 := hidE (B2.out.drew.trans (hb3.mono B2.out.drew.size))
 have X3 := hidE (blk_below hb3 (by simpa using l2) X2.out)
 have S3 := hidE (blk_below hb3 (by simpa using lt_of_block S2.out) S2.out)
 clear hb3
 go_wp2_with fail
 refine hK.out _ _ (.inr ⟨X3.out, S3.out⟩) ?_
 clear hK K
 try simp only [Act.put, s_a, s_b, s_c]
 refine wpAnyF_step 4 rfl (by kernel_rfl) (fun K hK => ?_)
 go_simp
 refine hK.out _ _ (.inr ⟨X3.out, S3.out⟩) ?_
 clear hK K
 try simp only [Act.put, s_a, s_b, s_c]
 refine wpAnyF_step 5 rfl (by kernel_rfl) (fun K hK => ?_)
 go_simp
 go_at_call 161
 refine (HRT.out _).mono ?_
 rintro e w4 ⟨rfl, rfl⟩
 go_wp2_with fail
 refine hK.out _ _ (.inr ⟨X3.out, S3.out⟩) ?_
 clear hK K
 try simp only [Act.put, s_a, s_b, s_c]
 refine wpAnyF_step 8 rfl (by kernel_rfl) (fun K hK => ?_)
 go_simp
 go_at_call 104
 refine (HFI.out _ B3.out).mono ?_
 rintro e w5 ⟨rfl, hb5⟩
 have B5 := hidE (B3.out.trans (hb5.mono B3.out.size))
 have X5 := hidE (blk_below hb5 (lt_of_block X3.out) X3.out)
 have S5 := hidE (blk_below hb5 (lt_of_block S3.out) S3.out)
 clear hb5
 go_wp2_with fail
 refine hK.out _ _ (.inr ⟨X5.out, S5.out⟩) ?_
 clear hK K
 try simp only [Act.put, s_a, s_b, s_c]
 refine wpAnyF_step 9 rfl (by kernel_rfl) (fun K hK => ?_)
 go_simp
 have hfs := first_any (w5.alloc (.cells #[.int .i64 r1, .int .i64 c3] 28)) (some ⟨w5.heap.size, 0, none⟩) 2 [r1, c3] (by simp) (two_ints w5 r1 c3 28)
 rw [HQ.out] at hfs
 have HFS := hidE hfs
 have B6 := hidE (B5.out.alloc B5.out.size (.cells #[.int .i64 r1, .int .i64 c3] 28))
 have X6 := hidE ((Below.heap_alloc w5 (.cells #[.int .i64 r1, .int .i64 c3] 28) _ (lt_of_block X5.out)).trans X5.out)
 have S6 := hidE ((Below.heap_alloc w5 (.cells #[.int .i64 r1, .int .i64 c3] 28) _ (lt_of_block S5.out)).trans S5.out)
 clear hfs
 refine hK.out _ _ (.inr ⟨X6.out, S6.out⟩) ?_
 clear hK K
 try simp only [Act.put, s_a, s_b, s_c]
 refine wpAnyF_step 10 rfl (by kernel_rfl) (fun K hK => ?_)
 go_simp
 go_at_call 132
 refine HFS.out.mono ?_
 rintro e w7 ⟨rfl, rfl⟩
 go_wp2_with fail
 refine hK.out _ _ (.inr ⟨X6.out, S6.out⟩) ?_
 clear hK K
 try simp only [Act.put, s_a, s_b, s_c]
 refine wpAnyF_step 11 rfl (by kernel_rfl) (fun K hK => ?_)
 go_simp
 refine hK.out _ _ (.inl rfl) ?_
 clear hK K
 refine wpAnyF_done (by kernel_rfl) ?_ _
 go_wp2_with fail
 go_ret
 exact ⟨rfl, B6.out⟩
theorem fit0 {F : Fld} {N : Int} {bs : List Bd} {ps : List Int} (h : fitE F N bs ps = 0) : F.check = 0 ∧ checkP N bs = 0 ∧ N = F.points ∧ fieldedE F ps = 0 := by
 unfold fitE at h
 split at h
 ·rename_i h1; exact absurd h h1
 ·rename_i h1
  split at h
  ·rename_i h2; exact absurd h h2
  ·rename_i h2
   split at h
   ·rename_i h3; exact ⟨Classical.not_not.1 h1, Classical.not_not.1 h2, h3, h⟩
   ·cases h
structure SJ (w : World) (x : FV) (F : Fld) (N : Int) (a : Option Addr) (cap : Nat) (bs : List Bd) (W : World) : Prop where
 j : FJ w x F none [] W
 sb : W.heap[w.heap.size + 1]? = some (.cells #[.int .i64 N, .slice a bs.length cap] 24 (0,0))
 bd : BoundsAt W a bs
theorem SJ.next {w W W' : World} {x : FV} {F : Fld} {N : Int} {a : Option Addr} {cap : Nat} {bs : List Bd} (h : SJ w x F N a cap bs W) (hb : Below W.heap.size W W') : SJ w x F N a cap bs W' :=
 ⟨h.j.next hb, blk_below hb (lt_of_block h.sb) h.sb, h.bd.below hb (Nat.le_refl _)⟩
theorem SJ.begin {w : World} {x : FV} {F : Fld} {N : Int} {a : Option Addr} {cap : Nat} {bs : List Bd} (h : FldAt w x F) (h2 : BoundsAt w a bs) :
 SJ w x F N a cap bs ((w.alloc (.cells (x.arr F) 46)).alloc (.cells #[.int .i64 N, .slice a bs.length cap] 24)) :=
 ⟨(FJ.begin h (.inl rfl)).alloc _, by
   have := heap_alloc_new (w.alloc (.cells (x.arr F) 46)) (.cells #[.int .i64 N, .slice a bs.length cap] 24)
   simpa using this, (h2.alloc _).alloc _⟩
theorem SJ.alloc {w W : World} {x : FV} {F : Fld} {N : Int} {a : Option Addr} {cap : Nat} {bs : List Bd} (h : SJ w x F N a cap bs W) (o : Obj) : SJ w x F N a cap bs (W.alloc o) := h.next ((Below.refl _ _).alloc (Nat.le_refl _) _)
theorem SJ.drew {w W : World} {x : FV} {F : Fld} {N : Int} {a : Option Addr} {cap : Nat} {bs : List Bd} (h : SJ w x F N a cap bs W) : SJ w x F N a cap bs W.drew := h.next (Below.refl _ W).drew
theorem SJ.c {w W : World} {x : FV} {F : Fld} {N : Int} {a : Option Addr} {cap : Nat} {bs : List Bd} (h : SJ w x F N a cap bs W) : W.cell? ⟨w.heap.size + 1, 0, none⟩ = some (.int .i64 N) ∧ W.cell? ⟨w.heap.size + 1, 1, none⟩ = some (.slice a bs.length cap) := ⟨ce h.sb rfl, ce h.sb rfl⟩
theorem EndsPost.val {err : Int} {S R : Option BestR} {base : Nat} {e : Ending} {w' : World} (h : EndsPost err S R base e w') : ∃ (c : Array Value) (er : Int), e = .returned (.tuple #[.agg c, .int .i64 er]) ∧ c.size = 6 ∧ c.all (·.oneCell') = true := by
 rcases h with ⟨_, e⟩ | ⟨_, _, e⟩ | ⟨_, s, r, gy, gF, hy, hF, _, _, _, _, _, _, e, _⟩
 ·exact ⟨_, _, e, rfl, by simp [zExt, Value.oneCell']⟩
 ·exact ⟨_, _, e, rfl, by simp [zExt, Value.oneCell']⟩
 ·exact ⟨_, _, e, rfl, by simp [rowVal, Value.oneCell']⟩
theorem EndsPost.set {err : Int} {S R : Option BestR} {base b0 g : Nat} {e : Ending} {w' : World} (h : EndsPost err S R base e w') (hb : b0 ≤ base) (hg : w'.heap[g]? = some (.cells zExt 76 (0,0))) (c : Array Value) : EndsPost err S R b0 e (w'.setRow g c) := by
 rcases h with q | q | ⟨q0, s, r, gy, gF, hy, hF, q1, q2, q3, q4, q5, q6, q7, b1, b2, b3, b4, _⟩
 ·exact .inl q
 ·exact .inr (.inl q)
 ·exact .inr (.inr ⟨q0, s, r, gy, gF, hy, hF, q1, q2, by omega, by omega, by omega, by omega, q7, (setRow_other _ _ _ _ (blk_ne b1 hg (by decide))).trans b1, (setRow_other _ _ _ _ (blk_ne b2 hg (by decide))).trans b2, (setRow_other _ _ _ _ (blk_ne b3 hg (by decide))).trans b3, (setRow_other _ _ _ _ (blk_ne b4 hg (by decide))).trans b4, trivial⟩)
def BoundsPost (fit : Int) (err : Int) (S R : Option BestR) (base : Nat) (e : Ending) (w' : World) : Prop :=
 (fit ≠ 0 ∧ e = .returned (.tuple #[.agg zExt, .int .i64 fit])) ∨ (fit = 0 ∧ EndsPost err S R base e w')
set_option maxRecDepth 100000 in
set_option maxHeartbeats 8000000 in
theorem bounds_any (w : World) (x : FV) (F : Fld) (N : Int) (a : Option Addr) (cap : Nat) (bs : List Bd) (i : Int) (f : Nat) (R : Option BestR) (g : Nat) (S : Option BestR) (hF : FldAt w x F) (hN : i64ok N) (hl : bs.length ≤ 9223372036854775807) (h : BoundsAt w a bs)
 (hrun : fitE F N bs [i] = 0 → consP N bs = 0 → BestRun N.toNat bs (weightsOf F (F.par i)) f R ∧ BestRun N.toNat bs ((weightsOf F (F.par i)).map (-·)) g S) :
 Calls Tryz.prog 57 #[x.val F, .agg #[.int .i64 N, .slice a bs.length cap], .int .i64 i] w fun e w' => BoundsPost (fitE F N bs [i]) (consP N bs) S R w.heap.size e w' ∧ Below w.heap.size w w' := by
 obtain ⟨w0, hw0⟩ : ∃ W, W = ((w.alloc (.cells (x.arr F) 46)).alloc (.cells #[.int .i64 N, .slice a bs.length cap] 24)).alloc (.cells zExt 76) := ⟨_, rfl⟩
 have J0 := hidE (show SJ w x F N a cap bs w0 by rw [hw0]; exact (SJ.begin hF h).alloc _)
 have Q0 := hidE (show Kb [(w.heap.size + 2, .cells zExt 76)] w0 by
  have := (Kb.alloc (o := .cells zExt 76) (L := []) (W := (w.alloc (.cells (x.arr F) 46)).alloc (.cells #[.int .i64 N, .slice a bs.length cap] 24)) trivial)
  rw [hw0]; simpa using this)
 have HFT := hidE (fun (W : World) (J : SJ w x F N a cap bs W) => fitting_any (W.alloc (.cells #[.int .i64 i] 3)) x F N a cap bs (some ⟨W.heap.size, 0, none⟩) 1 [i] (J.j.fld.alloc _) hN hl (J.bd.alloc _) (by simp) (ints_single W i))
 obtain ⟨f0, f1, f2, f3⟩ := J0.out.j.c
 obtain ⟨s0, s1⟩ := J0.out.c
 unfold zExt at hw0
 by_cases hz : fitE F N bs [i] = 0
 rotate_left
 ·obtain ⟨c, hc⟩ : ∃ c, fitE F N bs [i] = c := ⟨_, rfl⟩
  rw [hc] at hz HFT ⊢
  have hzb : (c != 0) = true := by simpa using hz
  have HZ0 := hidE hz
  unfold FV.val FV.arr at *
  clear hz hc hF h hN
  go_enter Tryz.func57, Tryz.ntmps57
  go_upto_region 1 with fail
  rw [← hw0]
  clear hw0
  go_wp2_with fail
  refine (HFT.out _ J0.out).mono ?_
  rintro e w1 ⟨rfl, hbx⟩
  have hb : Below w0.heap.size w0 w1 := ((Below.refl _ w0).alloc (Nat.le_refl _) _).trans (hbx.mono (by simp))
  have J1 := hidE (J0.out.next hb)
  have HZ := hidE (Q0.out.next hb).1
  clear hb hbx f0 f1 f2 f3 s0 s1 J0 Q0 HFT
  have z0 := ce (i := 0) HZ.out rfl
  have zf0 : w1.frozen? ⟨w.heap.size + 2, 0, none⟩ = false := frozen_of_row _ _ _ _ _ HZ.out
  have z1 := ce (i := 1) HZ.out rfl
  have zf1 : w1.frozen? ⟨w.heap.size + 2, 1, none⟩ = false := frozen_of_row _ _ _ _ _ HZ.out
  have z2 := ce (i := 2) HZ.out rfl
  have zf2 : w1.frozen? ⟨w.heap.size + 2, 2, none⟩ = false := frozen_of_row _ _ _ _ _ HZ.out
  have z3 := ce (i := 3) HZ.out rfl
  have zf3 : w1.frozen? ⟨w.heap.size + 2, 3, none⟩ = false := frozen_of_row _ _ _ _ _ HZ.out
  have z4 := ce (i := 4) HZ.out rfl
  have zf4 : w1.frozen? ⟨w.heap.size + 2, 4, none⟩ = false := frozen_of_row _ _ _ _ _ HZ.out
  have z5 := ce (i := 5) HZ.out rfl
  have zf5 : w1.frozen? ⟨w.heap.size + 2, 5, none⟩ = false := frozen_of_row _ _ _ _ _ HZ.out
  go_wp2_with fail
  try simp only [Exit.noGoto]
  refine bodyPost_ret (v := .tuple #[.agg zExt, .int .i64 c]) (results_cell_row2 Tryz.results57 _ _ (w.heap.size + 2) 76 zExt (0,0) _ rfl (ext_zero HZ.out) Tryz.underlying76 rfl (by kernel_rfl)) rfl ⟨.inl ⟨HZ0.out, rfl⟩, (((((J1.out.j.b.setCell (by dsimp only; omega) _).setCell (by dsimp only; omega) _).setCell (by dsimp only; omega) _).setCell (by dsimp only; omega) _).setCell (by dsimp only; omega) _).setCell (by dsimp only; omega) _⟩
 ·rw [hz] at HFT ⊢
  obtain ⟨hc, hck, hNp, hfd⟩ := fit0 hz
  have hrn := hrun hz
  obtain ⟨_, n, rfl, hn, hpar⟩ := fielded_one hfd
  have hin := check0_inside hc (List.getElem_mem hn)
  have hwb := weightsOf_bd hc hin
  have HWT := hidE (fun (W : World) (J : SJ w x F N a cap bs W) => weights_any W x F n hc hn J.j.fld)
  obtain ⟨n0, hNn, m2, m3, m4, m5⟩ := allOk_of hck
  rw [hpar] at hrn
  have hwl : (weightsOf F F.prs[n]).length = n0 := by rw [weightsOf_len]; omega
  have hpt : F.points.toNat = n0 := by omega
  subst hNn
  rw [hpt] at HWT
  have HEN := hidE (fun (W : World) (gw : Nat) (J : SJ w x F n0 a cap bs W) (hg : W.heap[gw]? = some (.cells (rowA (weightsOf F F.prs[n])) 3 (0,0))) => ends_any W n0 a cap bs (some ⟨gw, 0, none⟩) n0 _ f R g S m2 m3 m4 (fun b hb => (m5 b hb).1) J.bd (ints_of_row hg) hwl (fun v hv => by
   obtain ⟨j, hj, rfl⟩ := List.getElem_of_mem hv
   have := hwb j
   rw [getD_get _ 0 hj] at this
   omega) (fun z => (hrn z).1) (fun z => (hrn z).2))
  obtain ⟨L, hL⟩ : ∃ L, weightsOf F F.prs[n] = L := ⟨_, rfl⟩
  rw [hL] at HWT HEN
  obtain ⟨E, hE⟩ : ∃ E, consP (n0 : Int) bs = E := ⟨_, rfl⟩
  rw [hE] at HEN ⊢
  unfold FV.val FV.arr at *
  clear hz hc hck hrun hrn hfd hpar hin hwb hwl hL hE m5 hF h hN hNp hpt
  go_enter Tryz.func57, Tryz.ntmps57
  go_upto_region 1 with fail
  rw [← hw0]
  clear hw0
  go_wp2_with fail
  refine (HFT.out _ J0.out).mono ?_
  rintro e w1 ⟨rfl, hbx⟩
  have hb : Below w0.heap.size w0 w1 := ((Below.refl _ w0).alloc (Nat.le_refl _) _).trans (hbx.mono (by simp))
  have J1 := hidE (J0.out.next hb)
  have Q1 := hidE (Q0.out.next hb)
  clear hb hbx f0 f1 f2 f3 s0 s1 J0 Q0 HFT
  go_upto_region 4 with fail
  have hS0 : Kb [(w.heap.size, .cells #[.slice x.aS F.sts.length x.cS, .slice x.aL F.lms.length x.cL, .slice x.aP F.prs.length x.cP, .slice x.aV F.vrs.length x.cV] 46), (w.heap.size + 1, .cells #[.int .i64 (n0 : Int), .slice a bs.length cap] 24)] w1.drew := ⟨J1.out.j.blk, J1.out.sb, trivial⟩
  have JD := hidE J1.out.drew
  have QD := hidE Q1.out.drew
  clear J1 Q1
  refine wp_region_F (S := Kb [(w.heap.size, .cells #[.slice x.aS F.sts.length x.cS, .slice x.aL F.lms.length x.cL, .slice x.aP F.prs.length x.cP, .slice x.aV F.vrs.length x.cV] 46), (w.heap.size + 1, .cells #[.int .i64 (n0 : Int), .slice a bs.length cap] 24)]) (last := 100) (by kernel_rfl) ?_
  refine tF 0 18 (.agg #[.int .i64 (n0 : Int), .slice a bs.length cap]) rfl (by kernel_rfl) rfl (fun _ _ _ h => h) (fun V hV => ?_) hS0 ?_
  ·have z0 := ce (i := 0) hV.2.1 rfl
   have z1 := ce (i := 1) hV.2.1 rfl
   simp [go_sem, execOp, z0, z1]
  try simp only [sA, sB, sC]
  refine tF 1 19 (.agg #[.slice x.aS F.sts.length x.cS, .slice x.aL F.lms.length x.cL, .slice x.aP F.prs.length x.cP, .slice x.aV F.vrs.length x.cV]) rfl (by kernel_rfl) rfl (fun _ _ _ h => h) (fun V hV => ?_) hS0 ?_
  ·obtain ⟨z0, z1, z2, z3⟩ := fld4 hV.1
   simp [go_sem, execOp, z0, z1, z2, z3]
  try simp only [sA, sB, sC]
  refine tF 2 20 (.int .i64 (n : Int)) rfl (by kernel_rfl) rfl (fun _ _ _ h => h) (fun V hV => ?_) hS0 ?_
  ·simp [go_sem, execOp]
  try simp only [sA, sB, sC]
  refine wpAnyF_step 3 rfl (by kernel_rfl) (fun K hK => ?_)
  go_simp
  go_at_call 108
  refine (HWT.out _ JD.out).mono ?_
  rintro e w2 ⟨gw, rfl, hg, hgb, hb⟩
  have J2 := hidE (JD.out.next hb)
  have Q2 := hidE (QD.out.next hb)
  have hS2 := hS0.next hb
  have HG := hidE hg
  clear hb hg hgb hS0 JD QD
  go_wp2_with fail
  refine hK.out _ _ (.inr hS2) ?_
  clear hK K
  try simp only [Act.put, sA, sB, sC]
  refine tF 4 22 (.agg #[.int .i64 (n0 : Int), .slice a bs.length cap, .slice (some ⟨gw, 0, none⟩) n0 n0]) rfl (by kernel_rfl) rfl (fun _ _ _ h => h) (fun V hV => ?_) hS2 ?_
  ·simp [go_sem, execOp]
  try simp only [sA, sB, sC]
  refine wpAnyF_step 5 rfl (by kernel_rfl) (fun K hK => ?_)
  go_simp
  go_at_call 123
  refine (HEN.out _ gw J2.out HG.out).mono ?_
  rintro e w3 ⟨hp, hb⟩
  obtain ⟨c, er, rfl, hcs, hone⟩ := hp.val
  have J3 := hidE (J2.out.next hb)
  have Q3 := hidE (Q2.out.next hb)
  have hS3 := hS2.next hb
  have HP := hidE (hp.set (b0 := w.heap.size) J2.out.j.b.size Q3.out.1 c)
  have HCS := hidE hcs
  have HON := hidE hone
  clear hb hp hcs hone hS2 HEN HWT J2 Q2
  go_wp2_with fail
  refine hK.out _ _ (.inr hS3) ?_
  clear hK K
  try simp only [Act.put, sA, sB, sC]
  refine tF 6 24 (.agg c) rfl (by kernel_rfl) rfl (fun _ _ _ h => h) (fun V hV => ?_) hS3 ?_
  ·simp [go_sem, execOp]
  try simp only [sA, sB, sC]
  refine tF 7 25 (.int .i64 er) rfl (by kernel_rfl) rfl (fun _ _ _ h => h) (fun V hV => ?_) hS3 ?_
  ·simp [go_sem, execOp]
  try simp only [sA, sB, sC]
  refine wpAnyF_step 8 rfl (by kernel_rfl) (fun K hK => ?_)
  refine Eq.mpr (if_pos (by kernel_rfl)) ?_
  refine wp_store_row 76 _ _ rfl (w.heap.size + 2) c rfl rfl 76 _ Q3.out.1 (by rw [HCS.out]; kernel_rfl) (by rw [HCS.out]; rfl) HON.out ?_
  have hS4 : Kb [(w.heap.size, .cells #[.slice x.aS F.sts.length x.cS, .slice x.aL F.lms.length x.cL, .slice x.aP F.prs.length x.cP, .slice x.aV F.vrs.length x.cV] 46), (w.heap.size + 1, .cells #[.int .i64 (n0 : Int), .slice a bs.length cap] 24)] (w3.setRow (w.heap.size + 2) c) := ⟨(setRow_other _ _ _ _ (by omega)).trans hS3.1, (setRow_other _ _ _ _ (by omega)).trans hS3.2.1, trivial⟩
  refine hK.out _ _ (.inr hS4) ?_
  clear hK K
  try simp only [Act.put, List.setIfInBounds_toArray]
  refine wpAnyF_step 9 rfl (by kernel_rfl) (fun K hK => ?_)
  go_simp
  refine hK.out _ _ (.inr hS4) ?_
  clear hK K
  try simp only [Act.put, sA, sB, sC]
  refine wpAnyF_done (by kernel_rfl) ?_ _
  go_wp2_with fail
  try simp only [Exit.noGoto]
  refine bodyPost_ret (v := .tuple #[.agg c, .int .i64 er]) (results_cell_row2 Tryz.results57 _ _ (w.heap.size + 2) 76 _ (0,0) _ rfl (setRow_heap _ _ _ _ _ _ Q3.out.1) Tryz.underlying76 rfl (by rw [HCS.out]; kernel_rfl)) rfl ⟨.inr ⟨rfl, HP.out⟩, below_setRow J3.out.j.b (by omega) _⟩
end Go.Proofs.YthjmkmjojlfejaaGreat
namespace Go.Proofs.YthjmkmjojlfejaaGreat
theorem cons_noNeg {n : Nat} {bs : List Bd} (hc : checkP n bs = 0) (h : consP n bs = 0) : NoNeg bs := by
 obtain ⟨m, e, m1, m2, m3, m4⟩ := allOk_of hc
 obtain rfl : n = m := by omega
 unfold consP consistentE at h
 rw [if_pos hc] at h
 simp only [ne_eq, not_true_eq_false, if_false] at h
 cases ho : (openedP (n : Nat) bs).isSome with
 | true => exact (openedP_iff m2 fun b hb => (m4 b hb).1).1 ho
 | false => rw [ho] at h; simp at h
def RunsOk (F : Fld) (N : Int) (bs : List Bd) (i : Int) (f : Nat) (R : Option BestR) (g : Nat) (S : Option BestR) : Prop :=
 fitE F N bs [i] = 0 → consP N bs = 0 → Ends N.toNat bs (weightsOf F (F.par i)) f R g S
theorem fit_parts {F : Fld} {N : Int} {bs : List Bd} {i : Int} (h : fitE F N bs [i] = 0) : ∃ n : Nat, N = n ∧ 1 ≤ n ∧ n ≤ 128 ∧ bs.length ≤ 2000 ∧ AllValid n bs ∧ checkP n bs = 0 ∧ (weightsOf F (F.par i)).length = n ∧ (∀ v, -1000000 ≤ (weightsOf F (F.par i)).getD v 0 ∧ (weightsOf F (F.par i)).getD v 0 ≤ 1000000) ∧ fieldedE F [i] = 0 ∧ F.check = 0 ∧ F.points = n := by
 obtain ⟨hc, hck, hNp, hfd⟩ := fit0 h
 obtain ⟨_, m, rfl, hm, hpar⟩ := fielded_one hfd
 have hin := check0_inside hc (List.getElem_mem hm)
 have hwb := weightsOf_bd hc hin
 obtain ⟨n, hn, m1, m2, m3, m4⟩ := allOk_of hck
 subst hn
 rw [hpar]
 exact ⟨n, rfl, m1, m2, m3, fun b hb => (m4 b hb).1, hck, by rw [weightsOf_len]; omega, fun v => by have := hwb v; omega, hfd, hc, hNp.symm⟩
theorem runs_ex (F : Fld) (N : Int) (bs : List Bd) (i : Int) : ∃ f R g S, RunsOk F N bs i f R g S := by
 by_cases hf : fitE F N bs [i] = 0
 ·by_cases hc : consP N bs = 0
  ·obtain ⟨n, rfl, m1, m2, m3, m4, m5, m6, m7, _⟩ := fit_parts hf
   have hn := cons_noNeg m5 hc
   obtain ⟨f, R, a, b⟩ := best_total m1 m2 m4 hn m7 m6
   obtain ⟨g, S, c, d⟩ := best_total (w := (weightsOf F (F.par i)).map (-·)) m1 m2 m4 hn (fun v => by rw [map_neg_getD]; have := m7 v; omega) (by rw [List.length_map]; exact m6)
   exact ⟨f, R, g, S, fun _ _ => ⟨a, b, c, d⟩⟩
  ·exact ⟨0, none, 0, none, fun _ h => absurd h hc⟩
 ·exact ⟨0, none, 0, none, fun h => absurd h hf⟩
theorem RunsOk.run {F : Fld} {N : Int} {bs : List Bd} {i : Int} {f g : Nat} {R S : Option BestR} (h : RunsOk F N bs i f R g S) (hf : fitE F N bs [i] = 0) (hc : consP N bs = 0) :
 BestRun N.toNat bs (weightsOf F (F.par i)) f R ∧ BestRun N.toNat bs ((weightsOf F (F.par i)).map (-·)) g S := ⟨(h hf hc).hi, (h hf hc).lo⟩
end Go.Proofs.YthjmkmjojlfejaaGreat
namespace Go.Proofs.YthjmkmjojlfejaaGreat
open Go Go.RowKit Go.Shelf
def fewA (N : Int) (m : Nat) : Bool := (decide ((m : Int) ≤ 70) && (decide (N ≤ 26) || decide (N > 128))) || (decide ((m : Int) > 2000) && decide ((m : Int) ≤ 2005))
set_option maxHeartbeats 4000000 in
theorem fewA_any (w : World) (N : Int) (a : Option Addr) (n cap : Nat) (hn : n ≤ 9223372036854775807) :
 Calls Tryz.prog 21 #[.agg #[.int .i64 N, .slice a n cap]] w fun e w' => e = .returned (.bool (fewA N n)) ∧ Below w.heap.size w w' := by
 have B0 := hidE (show Below w.heap.size w (w.alloc (.cells #[.int .i64 N, .slice a n cap] 24)) from (Below.refl _ _).alloc (Nat.le_refl _) _)
 obtain ⟨P, hP⟩ : ∃ P, fewA N n = P := ⟨_, rfl⟩
 rw [hP]
 unfold fewA at hP
 by_cases h1 : n ≤ 70
 ·by_cases h2 : N ≤ 26
  ·have f0 : decide ((n : Int) ≤ 70) = true := by simp; omega
   have f1 : decide (n ≤ 70) = true := by simp; omega
   have f2 : decide (N ≤ 26) = true := by simp; omega
   have HP := hidE (show true = P by rw [← hP]; simp [h2, show (n : Int) ≤ 70 by omega] <;> omega)
   clear hP
   go_enter Tryz.func21, Tryz.ntmps21
   go_wp2_with fail
   go_ret
   exact ⟨by rw [← HP.out]; rfl, B0.out⟩
  ·by_cases h3 : 128 < N
   ·have f0 : decide ((n : Int) ≤ 70) = true := by simp; omega
    have f1 : decide (n ≤ 70) = true := by simp; omega
    have f2 : decide (N ≤ 26) = false := by simp; omega
    have f3 : decide (N > 128) = true := by simp; omega
    have f4 : decide (128 < N) = true := by simp; omega
    have HP := hidE (show true = P by rw [← hP]; simp [h3, show (n : Int) ≤ 70 by omega] <;> omega)
    clear hP
    go_enter Tryz.func21, Tryz.ntmps21
    go_wp2_with fail
    go_ret
    exact ⟨by rw [← HP.out]; rfl, B0.out⟩
   ·have f0 : decide ((n : Int) ≤ 70) = true := by simp; omega
    have f1 : decide (n ≤ 70) = true := by simp; omega
    have f2 : decide (N ≤ 26) = false := by simp; omega
    have f3 : decide (N > 128) = false := by simp; omega
    have f4 : decide (128 < N) = false := by simp; omega
    have f5 : decide ((n : Int) > 2000) = false := by simp; omega
    have f6 : decide (2000 < n) = false := by simp; omega
    have HP := hidE (show false = P by rw [← hP]; simp [h2, h3] <;> omega)
    clear hP
    go_enter Tryz.func21, Tryz.ntmps21
    go_wp2_with fail
    go_ret
    exact ⟨by rw [← HP.out]; rfl, B0.out⟩
 ·by_cases h2 : 2000 < n
  ·by_cases h3 : n ≤ 2005
   ·have f0 : decide ((n : Int) ≤ 70) = false := by simp; omega
    have f1 : decide (n ≤ 70) = false := by simp; omega
    have f2 : decide ((n : Int) > 2000) = true := by simp; omega
    have f3 : decide (2000 < n) = true := by simp; omega
    have f4 : decide ((n : Int) ≤ 2005) = true := by simp; omega
    have f5 : decide (n ≤ 2005) = true := by simp; omega
    have HP := hidE (show true = P by rw [← hP]; simp [show (n : Int) ≤ 2005 by omega, show 2000 < (n : Int) by omega] <;> omega)
    clear hP
    go_enter Tryz.func21, Tryz.ntmps21
    go_wp2_with fail
    go_ret
    exact ⟨by rw [← HP.out]; rfl, B0.out⟩
   ·have f0 : decide ((n : Int) ≤ 70) = false := by simp; omega
    have f1 : decide (n ≤ 70) = false := by simp; omega
    have f2 : decide ((n : Int) > 2000) = true := by simp; omega
    have f3 : decide (2000 < n) = true := by simp; omega
    have f4 : decide ((n : Int) ≤ 2005) = false := by simp; omega
    have f5 : decide (n ≤ 2005) = false := by simp; omega
    have HP := hidE (show false = P by rw [← hP]; simp [show ¬ (n : Int) ≤ 2005 by omega, show ¬ (n : Int) ≤ 70 by omega] <;> omega)
    clear hP
    go_enter Tryz.func21, Tryz.ntmps21
    go_wp2_with fail
    go_ret
    exact ⟨by rw [← HP.out]; rfl, B0.out⟩
  ·have f0 : decide ((n : Int) ≤ 70) = false := by simp; omega
   have f1 : decide (n ≤ 70) = false := by simp; omega
   have f2 : decide ((n : Int) > 2000) = false := by simp; omega
   have f3 : decide (2000 < n) = false := by simp; omega
   have HP := hidE (show false = P by rw [← hP]; simp [show ¬ (n : Int) ≤ 70 by omega] <;> omega)
   clear hP
   go_enter Tryz.func21, Tryz.ntmps21
   go_wp2_with fail
   go_ret
   exact ⟨by rw [← HP.out]; rfl, B0.out⟩
def smallP (F : Fld) : Bool := plainP F && decide (F.sts.length * F.lms.length ≤ 25)
set_option maxHeartbeats 4000000 in
theorem small_any (w : World) (x : FV) (F : Fld) (h1 : F.sts.length ≤ 9223372036854775807) (h2 : F.lms.length ≤ 9223372036854775807) (h3 : F.prs.length ≤ 9223372036854775807) (h4 : F.vrs.length ≤ 9223372036854775807) :
 Calls Tryz.prog 56 #[x.val F] w fun e w' => e = .returned (.bool (smallP F)) ∧ Below w.heap.size w w' := by
 have hpl := plain_any (w.alloc (.cells (x.arr F) 46)) x F h1 h2 h3 h4
 have B0 := hidE (show Below w.heap.size w (w.alloc (.cells (x.arr F) 46)) from (Below.refl _ _).alloc (Nat.le_refl _) _)
 have X0 := hidE (heap_alloc_new w (.cells (x.arr F) 46))
 have l0 : w.heap.size < (w.alloc (.cells (x.arr F) 46)).heap.size := by simp
 obtain ⟨P, hP⟩ : ∃ P, smallP F = P := ⟨_, rfl⟩
 rw [hP]
 unfold smallP at hP
 have hb : plainP F = true → F.sts.length ≤ 14 ∧ F.lms.length ≤ 12 := by
  intro h
  unfold plainP at h
  simp only [Bool.and_eq_true, decide_eq_true_eq] at h
  exact ⟨h.1.1.1, h.1.1.2⟩
 unfold FV.val FV.arr at *
 cases hq : plainP F with
 | false =>
   rw [hq] at hpl hP
   have HP := hidE (show false = P from hP)
   have HPL := hidE hpl
   clear hpl hP hb hq
   go_enter Tryz.func56, Tryz.ntmps56
   go_wp2_with fail
   refine HPL.out.mono ?_
   rintro e w1 ⟨rfl, hb1⟩
   have B1 := hidE (B0.out.trans (hb1.mono B0.out.size))
   clear hb1
   go_wp2_with fail
   go_ret
   exact ⟨by rw [← HP.out]; rfl, B1.out⟩
 | true =>
   obtain ⟨b1, b2⟩ := hb hq
   rw [hq] at hpl hP
   have hm : F.sts.length * F.lms.length ≤ 14 * 12 := Nat.mul_le_mul b1 b2
   have HPL := hidE hpl
   clear hpl hq hb
   obtain ⟨n1, e1⟩ : ∃ n, F.sts.length = n := ⟨_, rfl⟩
   obtain ⟨n2, e2⟩ : ∃ n, F.lms.length = n := ⟨_, rfl⟩
   rw [e1, e2] at hm hP
   rw [e1] at h1 HPL B0 X0 l0 ⊢
   rw [e2] at h2 HPL B0 X0 l0 ⊢
   clear e1 e2
   obtain ⟨m, hmm⟩ : ∃ m, n1 * n2 = m := ⟨_, rfl⟩
   have hmi : (n1 : Int) * (n2 : Int) = (m : Int) := by rw [← hmm]; simp
   rw [hmm] at hm hP
   have hwm : IntKind.i64.wrap (m : Int) = (m : Int) := IntWalk.i64_in _ (by omega)
   clear hmm
   by_cases hc : m ≤ 25
   ·have d1 : decide ((m : Int) ≤ 25) = true := by simp; omega
    have d2 : decide (m ≤ 25) = true := by simp; omega
    have HP := hidE (show true = P by rw [← hP, d2]; rfl)
    clear hP
    go_enter Tryz.func56, Tryz.ntmps56
    go_wp2_with fail
    refine HPL.out.mono ?_
    rintro e w1 ⟨rfl, hb1⟩
    have B1 := hidE (B0.out.trans (hb1.mono B0.out.size))
    have X1 := hidE (blk_below hb1 l0 X0.out)
    have f0 : w1.cell? ⟨w.heap.size, 0, none⟩ = some (.slice x.aS n1 x.cS) := c_e X1.out rfl
    have f1 : w1.cell? ⟨w.heap.size, 1, none⟩ = some (.slice x.aL n2 x.cL) := c_e X1.out rfl
    clear hb1 l0
    go_wp2_with fail
    go_ret
    exact ⟨by rw [← HP.out]; rfl, B1.out⟩
   ·have d1 : decide ((m : Int) ≤ 25) = false := by simp; omega
    have d2 : decide (m ≤ 25) = false := by simp; omega
    have HP := hidE (show false = P by rw [← hP, d2]; rfl)
    clear hP
    go_enter Tryz.func56, Tryz.ntmps56
    go_wp2_with fail
    refine HPL.out.mono ?_
    rintro e w1 ⟨rfl, hb1⟩
    have B1 := hidE (B0.out.trans (hb1.mono B0.out.size))
    have X1 := hidE (blk_below hb1 l0 X0.out)
    have f0 : w1.cell? ⟨w.heap.size, 0, none⟩ = some (.slice x.aS n1 x.cS) := c_e X1.out rfl
    have f1 : w1.cell? ⟨w.heap.size, 1, none⟩ = some (.slice x.aL n2 x.cL) := c_e X1.out rfl
    clear hb1 l0
    go_wp2_with fail
    go_ret
    exact ⟨by rw [← HP.out]; rfl, B1.out⟩
theorem get_some {c : Array Value} {i : Nat} (h : i < c.size) : ∃ v, c[i]? = some v := ⟨c[i], Array.getElem?_eq_getElem h⟩
def Wr (base : Nat) (e : TypeId) (sz : Nat) (W : World) (o : Option Addr) (n : Nat) : Prop := n = 0 ∨ ∃ g cur, o = some ⟨g, 0, none⟩ ∧ base ≤ g ∧ W.heap[g]? = some (.cells cur e (0,0)) ∧ n * sz ≤ cur.size
theorem Wr.next {base : Nat} {e : TypeId} {sz : Nat} {W W' : World} {o : Option Addr} {n : Nat} (h : Wr base e sz W o n) (hb : Below W.heap.size W W') : Wr base e sz W' o n := by
 rcases h with h | ⟨g, cur, h1, h2, h4, h5⟩
 ·exact .inl h
 ·exact .inr ⟨g, cur, h1, h2, blk_below hb (lt_of_block h4) h4, h5⟩
theorem Wr.mono {base b2 : Nat} {e : TypeId} {sz : Nat} {W : World} {o : Option Addr} {n : Nat} (h : Wr base e sz W o n) (hb : b2 ≤ base) : Wr b2 e sz W o n := by
 rcases h with h | ⟨g, cur, h1, h2, h4, h5⟩
 ·exact .inl h
 ·exact .inr ⟨g, cur, h1, by omega, h4, h5⟩
theorem Wr.set {base : Nat} {e e2 : TypeId} {sz g i : Nat} {W : World} {o : Option Addr} {n : Nat} {cur : Array Value} (h : Wr base e sz W o n) (hg : W.heap[g]? = some (.cells cur e2 (0,0))) (u : Value) : Wr base e sz (W.setCell ⟨g, i, none⟩ u) o n := by
 rcases h with h | ⟨k, c2, h1, h2, h4, h5⟩
 ·exact .inl h
 ·by_cases q : k = g
  ·subst q
   exact .inr ⟨k, c2.setIfInBounds i u, h1, h2, heap_setCell_same _ _ _ _ _ _ h4, by simpa using h5⟩
  ·exact .inr ⟨k, c2, h1, h2, (heap_setCell_other _ _ _ _ q).trans h4, h5⟩
theorem wr_of {W : World} {base : Nat} {e : TypeId} {sz : Nat} {v : Value} {n : Nat} {xs : List Value} (h : W.ownsRow base e sz v n xs) : ∃ o c, v = .slice o n c ∧ n ≤ 9223372036854775807 ∧ Wr base e sz W o n := by
 rcases h.2 with ⟨e1, h0⟩ | ⟨gb, cp, cur, e1, hge, hh, hn, hml, hsz, _⟩
 ·subst h0; exact ⟨none, 0, e1, by omega, .inl rfl⟩
 ·exact ⟨_, _, e1, by unfold maxLen at hml; omega, .inr ⟨gb, cur, rfl, hge, hh, by rw [hsz]; exact Nat.mul_le_mul_right _ hn⟩⟩
structure XS (wA : World) (L : List (Nat × Obj)) (M : List (Option Addr × Nat)) (W : World) : Prop where
 bl : Below wA.heap.size wA W
 bx : Kb L W
 ls : ∀ p ∈ M, Wr wA.heap.size 3 1 W p.1 p.2
theorem XS.next {wA W W' : World} {L : List (Nat × Obj)} {M : List (Option Addr × Nat)} (h : XS wA L M W) (hb : Below W.heap.size W W') : XS wA L M W' :=
 ⟨h.bl.trans (hb.mono h.bl.size), h.bx.next hb, fun p hp => (h.ls p hp).next hb⟩
theorem XS.set {wA W : World} {L : List (Nat × Obj)} {M : List (Option Addr × Nat)} (h : XS wA L M W) {g i : Nat} {e : TypeId} {cur : Array Value} (hg : W.heap[g]? = some (.cells cur e (0,0))) (hb : wA.heap.size ≤ g) (hL : ∀ p ∈ L, p.1 ≠ g) (u : Value) : XS wA L M (W.setCell ⟨g, i, none⟩ u) :=
 ⟨h.bl.setCell (by exact hb) _, Kb.set hL h.bx, fun p hp => (h.ls p hp).set hg u⟩
def boundsV (fit err : Int) (S R : Option BestR) : Int × Int × Int :=
 if fit ≠ 0 then (0, 0, fit) else if err ≠ 0 then (0, 0, err) else match S, R with
  | some s, some r => (-s.n, r.n, 0)
  | _, _ => (0, 0, 50)
theorem BoundsPost.look3 {fit err : Int} {S R : Option BestR} {base : Nat} {e : Ending} {w' : World} (h : BoundsPost fit err S R base e w') (hS : fit = 0 → err = 0 → ∀ s, S = some s → s.y.length ≤ 1000000 ∧ s.flow.length ≤ 1000000) (hR : fit = 0 → err = 0 → ∀ s, R = some s → s.y.length ≤ 1000000 ∧ s.flow.length ≤ 1000000) :
 ∃ (o2 o3 o4 o5 : Option Addr) (n2 n3 n4 n5 c2 c3 c4 c5 : Nat), e = .returned (.tuple #[.agg #[.int .i64 (boundsV fit err S R).1, .int .i64 (boundsV fit err S R).2.1, .slice o2 n2 c2, .slice o3 n3 c3, .slice o4 n4 c4, .slice o5 n5 c5], .int .i64 (boundsV fit err S R).2.2]) ∧
  Wr base 3 1 w' o2 n2 ∧ Wr base 3 1 w' o3 n3 ∧ Wr base 3 1 w' o4 n4 ∧ Wr base 3 1 w' o5 n5 ∧ (n2 ≤ 1000000 ∧ n3 ≤ 1000000 ∧ n4 ≤ 1000000 ∧ n5 ≤ 1000000) := by
 have row : ∀ {g : Nat} {l : List Int}, base ≤ g → w'.heap[g]? = some (.cells (rowA l) 3 (0,0)) → Wr base 3 1 w' (some ⟨g, 0, none⟩) l.length := fun hb hg => .inr ⟨_, _, rfl, hb, hg, by simp [rowA, intsV]⟩
 rcases h with ⟨q, e⟩ | ⟨h0, ⟨q, e⟩ | ⟨q, hn, e⟩ | ⟨q, s, r, gy, gF, hy, hF, hs, hr, q1, q2, q3, q4, e, b1, b2, b3, b4, _⟩⟩
 ·unfold boundsV
  rw [if_pos q]
  exact ⟨none, none, none, none, 0, 0, 0, 0, 0, 0, 0, 0, e, .inl rfl, .inl rfl, .inl rfl, .inl rfl, by omega⟩
 ·unfold boundsV
  rw [if_neg (by omega), if_pos q]
  exact ⟨none, none, none, none, 0, 0, 0, 0, 0, 0, 0, 0, e, .inl rfl, .inl rfl, .inl rfl, .inl rfl, by omega⟩
 ·have hv : boundsV fit err S R = (0, 0, 50) := by
   unfold boundsV
   rw [if_neg (by omega), if_neg (by omega)]
   rcases hn with rfl | rfl
   ·cases R <;> rfl
   ·cases S <;> rfl
  rw [hv]
  exact ⟨none, none, none, none, 0, 0, 0, 0, 0, 0, 0, 0, e, .inl rfl, .inl rfl, .inl rfl, .inl rfl, by omega⟩
 ·subst hs hr
  have hv : boundsV fit err (some s) (some r) = (-s.n, r.n, 0) := by
   unfold boundsV
   rw [if_neg (by omega), if_neg (by omega)]
  rw [hv]
  exact ⟨_, _, _, _, _, _, _, _, _, _, _, _, e, row q1 b1, row q3 b3, row q2 b2, row q4 b4, (hS h0 q s rfl).1, (hR h0 q r rfl).1, (hS h0 q s rfl).2, (hR h0 q r rfl).2⟩
theorem runs_len {F : Fld} {N : Int} {bs : List Bd} {i : Int} {f g : Nat} {R S : Option BestR} (h : RunsOk F N bs i f R g S) (hf : fitE F N bs [i] = 0) (hc : consP N bs = 0) :
 (∀ s, S = some s → s.y.length ≤ 1000000 ∧ s.flow.length ≤ 1000000) ∧ (∀ s, R = some s → s.y.length ≤ 1000000 ∧ s.flow.length ≤ 1000000) := by
 have E := h hf hc
 obtain ⟨n, rfl, m1, m2, m3, _⟩ := fit_parts hf
 rw [Int.toNat_natCast] at E
 exact ⟨fun s hs => by have b := (E.lk s hs).1; rw [b.yl, b.fl]; omega, fun s hs => by have b := (E.ho s hs).1; rw [b.yl, b.fl]; omega⟩
theorem fewA_len {N : Int} {m : Nat} (h : fewA N m = true) : m ≤ 2005 := by
 unfold fewA at h
 simp only [Bool.or_eq_true, Bool.and_eq_true, decide_eq_true_eq] at h
 omega
structure NJ (w : World) (x : FV) (F : Fld) (N : Int) (a : Option Addr) (cap : Nat) (bs : List Bd) (ap : Option Addr) (parts : List Int) (W : World) : Prop where
 j : SJ w x F N a cap bs W
 p : IntsAt W ap parts
section
variable {w W W' : World} {x : FV} {F : Fld} {N : Int} {a : Option Addr} {cap : Nat} {bs : List Bd} {ap : Option Addr} {parts : List Int}
theorem NJ.next (h : NJ w x F N a cap bs ap parts W) (hb : Below W.heap.size W W') : NJ w x F N a cap bs ap parts W' := ⟨h.j.next hb, h.p.below hb (Nat.le_refl _)⟩
end
theorem info53 : (Tryz.prog.info? 53).map (fun i => (i.zero, i.size, i.bytes)) = some (some (.agg #[.string ⟨#[]⟩, .int .i64 0, .int .i64 0, .int .i64 0]), 4, 40) := by kernel_rfl
def pieceP (p : Par) (j : Nat) : Par := ⟨p.name, p.south, p.wst + j, p.wst + j + 1⟩
def piecesTo (p : Par) (k : Nat) : List Par := (List.range k).map (pieceP p)
def piecesP (p : Par) : List Par := piecesTo p (p.est - p.wst).toNat
def piecesE (F : Fld) (i : Int) : List Par × Int := if fieldedE F [i] ≠ 0 then ([], fieldedE F [i]) else (piecesP (F.par i), 0)
theorem piecesTo_len (p : Par) (k : Nat) : (piecesTo p k).length = k := by simp [piecesTo]
theorem piecesTo_succ (p : Par) (k : Nat) : (piecesTo p (k + 1)).flatMap Par.cells = (piecesTo p k).flatMap Par.cells ++ (pieceP p k).cells := by
 unfold piecesTo
 rw [List.range_succ, List.map_append, List.flatMap_append]
 simp
def PiecesPost (l : List Par) (err : Int) (base : Nat) (e : Ending) (w' : World) : Prop := ∃ v, e = .returned (.tuple #[v, .int .i64 err]) ∧ w'.ownsRow base 53 4 v l.length (l.flatMap Par.cells)
set_option maxRecDepth 100000 in
set_option maxHeartbeats 4000000 in
theorem piecesE_any (w : World) (x : FV) (F : Fld) (i : Int) (h : FldAt w x F) : Calls Tryz.prog 54 #[x.val F, .int .i64 i] w fun e w' => PiecesPost (piecesE F i).1 (piecesE F i).2 w.heap.size e w' ∧ Below w.heap.size w w' := by
 have B0 := hidE (show Below w.heap.size w (w.alloc (.cells (x.arr F) 46)) from (Below.refl _ _).alloc (Nat.le_refl _) _)
 have X0 := hidE (heap_alloc_new w (.cells (x.arr F) 46))
 have l0 : w.heap.size < (w.alloc (.cells (x.arr F) 46)).heap.size := by simp
 have HFI := hidE (fun (W : World) (A : Nat) (hA : A = W.heap.size) (hb : Below w.heap.size w W) => show Calls Tryz.prog 104 #[x.val F, .slice (some ⟨A, 0, none⟩) 1 1] (W.alloc (.cells #[.int .i64 i] 3)) _ by subst hA; exact fielded_any (W.alloc (.cells #[.int .i64 i] 3)) x F (some ⟨W.heap.size, 0, none⟩) 1 [i] (by simp) ((h.below hb).alloc _) (ints_single W i))
 obtain ⟨P1, hP1⟩ : ∃ z, (piecesE F i).1 = z := ⟨_, rfl⟩
 obtain ⟨P2, hP2⟩ : ∃ z, (piecesE F i).2 = z := ⟨_, rfl⟩
 rw [hP1, hP2]
 unfold piecesE at hP1 hP2
 by_cases hz : fieldedE F [i] = 0
 ·obtain ⟨hc, n, rfl, hn, hpar⟩ := fielded_one hz
  rw [if_neg (by omega)] at hP1 hP2
  rw [hz] at HFI
  rw [hpar] at hP1
  have hin := check0_inside hc (List.getElem_mem hn)
  obtain ⟨⟨ls1, ls2⟩, ⟨ll1, ll2⟩, lp⟩ := check0_len hc
  obtain ⟨bP, oP, haP, hbP, hcP⟩ := RecsAt.at h.pr hn
  obtain ⟨p, hp⟩ : ∃ p, F.prs[n] = p := ⟨_, rfl⟩
  rw [hp] at hin hcP hP1
  obtain ⟨m, hm⟩ : ∃ m : Nat, p.wst = m := ⟨p.wst.toNat, by obtain ⟨_, _, _, _, _⟩ := hin; omega⟩
  obtain ⟨E, hE⟩ : ∃ E : Nat, p.est = E := ⟨p.est.toNat, by obtain ⟨_, _, _, _, _⟩ := hin; omega⟩
  obtain ⟨K, hK⟩ : ∃ K : Nat, E = m + K := ⟨E - m, by obtain ⟨_, _, _, _, _⟩ := hin; omega⟩
  have hEb : E ≤ 100 := by obtain ⟨_, _, _, _, _⟩ := hin; omega
  have HPK : Hid (P1 = piecesTo p K) := hidE (by rw [← hP1]; show piecesTo p (p.est - p.wst).toNat = _; congr 1; omega)
  have HSU := hidE (fun k => show (piecesTo p (k + 1)).flatMap Par.cells = (piecesTo p k).flatMap Par.cells ++ [.string p.name, .int .i64 p.south, .int .i64 ((m + k : Nat) : Int), .int .i64 (((m + k : Nat) : Int) + 1)] by
   rw [piecesTo_succ]; unfold Par.cells pieceP; dsimp only; rw [hm]; simp)
  have HSL := hidE (piecesTo_len p)
  obtain ⟨PT, hPT⟩ : ∃ PT, piecesTo p = PT := ⟨_, rfl⟩
  have HP00 : Hid (PT 0 = []) := hidE (by rw [← hPT]; rfl)
  rw [hPT] at HPK HSU HSL
  obtain rfl : (0 : Int) = P2 := hP2
  obtain ⟨pn, ps, pw, pe⟩ := p
  dsimp only at hm hE HSU
  subst hm hE
  have HK := hidE hK
  have c0 := hcP 0 (by omega)
  have c1 := hcP 1 (by omega)
  have c2 := hcP 2 (by omega)
  have c3 := hcP 3 (by omega)
  simp only [Par.cells, List.getElem?_cons_zero, List.getElem?_cons_succ, Nat.add_zero] at c0 c1 c2 c3
  have C0 := hidE c0
  have C1 := hidE c1
  have C2 := hidE c2
  have C3 := hidE c3
  clear hz hpar hP1 h hc hp hin hcP hK hPT c0 c1 c2 c3
  have HAP := hidE haP
  unfold FV.val FV.arr at *
  rw [haP] at HFI X0 B0 l0 ⊢
  clear haP HAP
  go_enter Tryz.func54, Tryz.ntmps54
  go_wp2_with fail
  refine (HFI.out _ _ (by simp) B0.out).mono ?_
  rintro e w1 ⟨rfl, hb1⟩
  have a1 := B0.out.alloc B0.out.size (.cells #[.int .i64 (n : Int)] 3)
  have B1 := hidE (a1.trans (hb1.mono a1.size))
  have X1 := hidE (blk_below hb1 (Nat.lt_of_lt_of_le l0 (by simp)) ((Below.heap_alloc _ _ _ l0).trans X0.out))
  clear a1
  have l1 := lt_of_block X1.out
  have f0 : w1.cell? ⟨w.heap.size, 0, none⟩ = some (.slice x.aS F.sts.length x.cS) := c_e X1.out rfl
  have f1 : w1.cell? ⟨w.heap.size, 1, none⟩ = some (.slice x.aL F.lms.length x.cL) := c_e X1.out rfl
  have f2 : w1.cell? ⟨w.heap.size, 2, none⟩ = some (.slice (some ⟨bP, oP, none⟩) F.prs.length x.cP) := c_e X1.out rfl
  have f3 : w1.cell? ⟨w.heap.size, 3, none⟩ = some (.slice x.aV F.vrs.length x.cV) := c_e X1.out rfl
  have d0 := (B1.out.cell (p := ⟨bP, oP + n * 4, none⟩) hbP).trans C0.out
  have d1 := (B1.out.cell (p := ⟨bP, oP + n * 4 + 1, none⟩) hbP).trans C1.out
  have d2 := (B1.out.cell (p := ⟨bP, oP + n * 4 + 2, none⟩) hbP).trans C2.out
  have d3 := (B1.out.cell (p := ⟨bP, oP + n * 4 + 3, none⟩) hbP).trans C3.out
  clear hb1 C0 C1 C2 C3
  go_upto_region 5 with fail
  obtain ⟨w2, hw2⟩ : ∃ W, W = w1.alloc (.cells #[.string pn, .int .i64 ps, .int .i64 (m : Int), .int .i64 (E : Int)] 53) := ⟨_, rfl⟩
  rw [← hw2]
  have B2 := hidE (show Below w.heap.size w w2 by rw [hw2]; exact B1.out.alloc B1.out.size _)
  have G2 := hidE (show w2.heap[w1.heap.size]? = some (.cells #[.string pn, .int .i64 ps, .int .i64 (m : Int), .int .i64 (E : Int)] 53 (0,0)) by rw [hw2]; exact heap_alloc_new _ _)
  obtain ⟨g, hg⟩ : ∃ g, w1.heap.size = g := ⟨_, rfl⟩
  rw [hg] at G2 ⊢
  have lg := lt_of_block G2.out
  clear hw2 hg f0 f1 f2 f3 d0 d1 d2 d3 X1 l1
  have k2 : w2.cell? ⟨g, 2, none⟩ = some (.int .i64 (m : Int)) := c_e G2.out rfl
  go_wp2_with fail
  clear k2
  go_loopw [8, 9] (fun v i wr => ∃ k : Nat, k ≤ K ∧ i = .int .i64 ((m + k : Nat) : Int) ∧ Hid (wr.ownsRow w2.heap.size 53 4 v k ((PT k).flatMap Par.cells)) ∧ Hid (Below w2.heap.size w2 wr)) (fun _ i _ => E - (intOf i).toNat)
  case atStart => exact ⟨0, Nat.zero_le _, rfl, hidE (by rw [HP00.out]; exact World.ownsRow_nil _ _ _ _), hidE (Below.refl _ _)⟩
  case round =>
   obtain ⟨k, hk, rfl, HOWN, HB⟩ := hrel
   obtain ⟨wx, rfl⟩ : ∃ X : World, X = wr := ⟨wr, rfl⟩
   have k0 : wx.cell? ⟨g, 0, none⟩ = some (.string pn) := by rw [HB.out.cell (p := ⟨g, 0, none⟩) lg, cell_of_row _ _ _ _ _ _ G2.out]; rfl
   have k1 : wx.cell? ⟨g, 1, none⟩ = some (.int .i64 ps) := by rw [HB.out.cell (p := ⟨g, 1, none⟩) lg, cell_of_row _ _ _ _ _ _ G2.out]; rfl
   have k3 : wx.cell? ⟨g, 3, none⟩ = some (.int .i64 (E : Int)) := by rw [HB.out.cell (p := ⟨g, 3, none⟩) lg, cell_of_row _ _ _ _ _ _ G2.out]; rfl
   obtain ⟨u, hu⟩ : ∃ u : Nat, m + k = u := ⟨_, rfl⟩
   have hE := HK.out
   by_cases hlt : k < K
   ·have hd : decide ((u : Int) < (E : Int)) = true := by simp; omega
    have hd' : decide (u < E) = true := by simp; omega
    have huw : IntKind.i64.wrap ((u : Int) + 1) = (u : Int) + 1 := IntWalk.i64_in _ (by omega)
    have hsu := HSU.out k
    rw [hu] at hsu
    have own3 := HOWN.out.alloc (.cells #[.string pn, .int .i64 ps, .int .i64 (u : Int), .int .i64 ((u : Int) + 1)] 53)
    obtain ⟨v', wa, hrun, hown', hbl2, _⟩ := append_rec (w := wx.alloc (.cells #[.string pn, .int .i64 ps, .int .i64 (u : Int), .int .i64 ((u : Int) + 1)] 53)) (tS := 43) Tryz.underlying43 info53 rfl (by decide) (by decide) own3 (b := wx.heap.size) (news := [.string pn, .int .i64 ps, .int .i64 (u : Int), .int .i64 ((u : Int) + 1)]) rfl (heap_alloc_new _ _) (by intro t ht; simp at ht; rcases ht with rfl | rfl | rfl | rfl <;> rfl) (by omega) (by have := HB.out.size; simp; omega) 43
    have HRUN := hidE hrun
    have HOW := hidE (show wa.ownsRow w2.heap.size 53 4 v' (k + 1) ((PT (k + 1)).flatMap Par.cells) by rw [hsu]; exact hown')
    have HBL := hidE ((HB.out.alloc HB.out.size _).trans hbl2)
    have HU := hidE hu
    have HLT := hidE hlt
    rw [hu]
    clear hrun hown' hbl2 own3 hsu hu hE
    go_wp2_with (at_builtin; refine wpList_op_append rfl (s := .tmp 30) (x := .tmp 39) (t := 43) rfl rfl rfl HRUN.out ?_)
    go_roundw
    case rel => exact ⟨k + 1, HLT.out, by rw [← HU.out]; go_num, HOW, HBL⟩
    case measure => have := HLT.out; have := HU.out; have := HK.out; simp [intOf]; omega
   ·obtain rfl : k = K := by omega
    have hd : decide ((u : Int) < (E : Int)) = false := by simp; omega
    have hd' : decide (u < E) = false := by simp; omega
    have ho := HOWN.out
    rw [← HPK.out] at ho
    have hkl : k = P1.length := by rw [HPK.out, HSL.out]
    have HO := hidE ho
    have HKL := hidE hkl
    have HBF := hidE (B2.out.trans (HB.out.mono B2.out.size))
    rw [hu]
    clear ho hkl hE hu HOWN
    go_wp2_with fail
    go_ret2
    have ho := HO.out
    rw [HKL.out] at ho
    exact ⟨⟨_, rfl, ownsRow_base ho B2.out.size⟩, HBF.out⟩
 ·rw [if_pos hz] at hP1 hP2
  obtain rfl : [] = P1 := hP1
  have hzb : (P2 != 0) = true := by rw [← hP2]; simpa using hz
  rw [show fieldedE F [i] = P2 from hP2] at HFI
  clear hz hP2 h
  unfold FV.val FV.arr at *
  go_enter Tryz.func54, Tryz.ntmps54
  go_wp2_with fail
  refine (HFI.out _ _ (by simp) B0.out).mono ?_
  rintro e w1 ⟨rfl, hb1⟩
  have a1 := B0.out.alloc B0.out.size (.cells #[.int .i64 i] 3)
  have B1 := hidE (a1.trans (hb1.mono a1.size))
  clear a1
  clear hb1
  go_wp2_with fail
  go_ret2
  exact ⟨⟨_, rfl, World.ownsRow_nil _ _ _ _⟩, B1.out⟩
theorem same_twice (W : World) (o1 o2 : Option Addr) (c1 c2 : Nat) (Q : List Int) (hq : Q.length ≤ 4000) (h1 : IntsAt W o1 Q) (h2 : IntsAt W o2 Q) :
 Calls Tryz.prog 32 #[.slice o1 Q.length c1, .slice o2 Q.length c2] W fun e w' => e = .returned (.bool true) ∧ Below W.heap.size W w' := by
 refine (same_any W o1 c1 Q o2 c2 Q (by omega) (by omega) h1 h2).mono ?_
 rintro e w' ⟨rfl, rfl⟩
 exact ⟨by simp, Below.refl _ _⟩
theorem weightsE_len (F : Fld) (i : Int) : (weightsE F i).1.length ≤ 121 := by
 unfold weightsE
 split
 ·simp
 ·rename_i h
  obtain ⟨hc, _⟩ := fielded_one (Classical.not_not.1 h)
  have := points_nat hc
  show (weightsOf F (F.par i)).length ≤ 121
  rw [weightsOf_len]; omega
set_option maxRecDepth 100000 in
set_option maxHeartbeats 64000000 in
theorem areaMemory_of (hal : AliveOk) (w : World) (x : FV) (F : Fld) (N : Int) (a : Option Addr) (cap : Nat) (bs : List Bd) (i : Int) (ap : Option Addr) (capp : Nat) (parts : List Int)
 (hF : FldAt w x F) (hN : i64ok N) (hl : bs.length ≤ 9223372036854775807) (h1 : BoundsAt w a bs) (hp : parts.length ≤ 9223372036854775807) (h3 : IntsAt w ap parts) :
 Calls Tryz.prog 13 #[x.val F, .agg #[.int .i64 N, .slice a bs.length cap], .int .i64 i, .slice ap parts.length capp] w fun e w' => e = .returned (.bool true) ∧ Below w.heap.size w w' := by
 have HAL := hidE hal
 obtain ⟨w0, hw0⟩ : ∃ W, W = (w.alloc (.cells (x.arr F) 46)).alloc (.cells #[.int .i64 N, .slice a bs.length cap] 24) := ⟨_, rfl⟩
 have J0 := hidE (show NJ w x F N a cap bs ap parts w0 by rw [hw0]; exact ⟨SJ.begin hF h1, (h3.alloc _).alloc _⟩)
 have HSM := hidE (fun (W : World) => small_any W x F (by have := hF.ls; omega) (by have := hF.ll; omega) (by have := hF.lp; omega) (by have := hF.lv; omega))
 have HF1 := hidE (fun (W : World) => fewA_any W N a bs.length cap (by omega))
 have hfl := fewA_len (N := N) (m := bs.length)
 obtain ⟨f, R, g, S, hrun⟩ := runs_ex F N bs i
 have HBO := hidE (fun (W : World) (J : NJ w x F N a cap bs ap parts W) => bounds_any W x F N a cap bs i f R g S J.j.j.fld hN hl J.j.bd (fun p q => hrun.run p q))
 have HWE := hidE (fun (W : World) (J : NJ w x F N a cap bs ap parts W) => weightsE_any W x F i J.j.j.fld)
 have HWR := hidE (fun (W : World) (J : NJ w x F N a cap bs ap parts W) => rweightsE_any W x F i J.j.j.fld)
 have HPI := hidE (fun (W : World) (J : NJ w x F N a cap bs ap parts W) => piecesE_any W x F i J.j.j.fld)
 have HSH := hidE (fun (W : World) (J : NJ w x F N a cap bs ap parts W) => sharesE_any W 100 ap capp parts hp J.p)
 have HLN := hidE (fun p q => runs_len hrun p q)
 have hwl := weightsE_len F i
 obtain ⟨WL, hWL⟩ : ∃ z, (weightsE F i).1 = z := ⟨_, rfl⟩
 obtain ⟨e1, he1⟩ : ∃ z, (weightsE F i).2 = z := ⟨_, rfl⟩
 rw [hWL] at hwl
 rw [hWL, he1] at HWE HWR
 obtain ⟨PL, hPL⟩ : ∃ z, (piecesE F i).1 = z := ⟨_, rfl⟩
 obtain ⟨e2, he2⟩ : ∃ z, (piecesE F i).2 = z := ⟨_, rfl⟩
 rw [hPL, he2] at HPI
 obtain ⟨SL, hSL⟩ : ∃ z, (sharesE 100 parts).1 = z := ⟨_, rfl⟩
 obtain ⟨e3, he3⟩ : ∃ z, (sharesE 100 parts).2 = z := ⟨_, rfl⟩
 rw [hSL, he3] at HSH
 have HWL := hidE hwl
 obtain ⟨f0, f1, f2c, f3⟩ := J0.out.j.j.c
 obtain ⟨s0, s1⟩ := J0.out.j.c
 unfold FV.val FV.arr at *
 clear hal hF h1 h3 hrun hN hwl hWL he1 hPL he2 hSL he3
 cases hs : smallP F with
 | false =>
   rw [hs] at HSM
   clear hs
   go_enter Tryz.func13, Tryz.ntmps13
   go_upto_region 1 with fail
   rw [← hw0]
   clear hw0
   go_wp2_with fail
   refine (HSM.out _).mono ?_
   rintro e u0 ⟨rfl, hb⟩
   have E0 := hidE (J0.out.next hb)
   clear hb J0
   obtain ⟨f0, f1, f2c, f3⟩ := E0.out.j.j.c
   obtain ⟨s0, s1⟩ := E0.out.j.c
   go_wp2_with fail
   refine (HAL.out _).mono ?_
   rintro e u9 ⟨rfl, hb⟩
   have E9 := hidE (E0.out.next hb)
   clear hb E0
   go_wp2_with fail
   go_ret
   exact ⟨by simp, E9.out.j.j.b⟩
 | true =>
 rw [hs] at HSM
 cases hf1 : fewA N bs.length with
 | false =>
   rw [hf1] at HF1
   clear hs hf1
   go_enter Tryz.func13, Tryz.ntmps13
   go_upto_region 1 with fail
   rw [← hw0]
   clear hw0
   go_wp2_with fail
   refine (HSM.out _).mono ?_
   rintro e u0 ⟨rfl, hb⟩
   have E0 := hidE (J0.out.next hb)
   clear hb J0
   obtain ⟨f0, f1, f2c, f3⟩ := E0.out.j.j.c
   obtain ⟨s0, s1⟩ := E0.out.j.c
   go_wp2_with fail
   refine (HF1.out _).mono ?_
   rintro e u1 ⟨rfl, hb⟩
   have E1 := hidE (E0.out.next hb)
   clear hb E0
   obtain ⟨f0, f1, f2c, f3⟩ := E1.out.j.j.c
   obtain ⟨s0, s1⟩ := E1.out.j.c
   go_wp2_with fail
   refine (HAL.out _).mono ?_
   rintro e u9 ⟨rfl, hb⟩
   have E9 := hidE (E1.out.next hb)
   clear hb E1
   go_wp2_with fail
   go_ret
   exact ⟨by simp, E9.out.j.j.b⟩
 | true =>
 rw [hf1] at HF1
 have hbl := hfl hf1
 by_cases hv : 60 < parts.length
 ·have hd : decide ((parts.length : Int) > 60) = true := by simp; omega
  have hd' : decide (60 < parts.length) = true := by simp; omega
  clear hs hf1 hv hfl
  go_enter Tryz.func13, Tryz.ntmps13
  go_upto_region 1 with fail
  rw [← hw0]
  clear hw0
  go_wp2_with fail
  refine (HSM.out _).mono ?_
  rintro e u0 ⟨rfl, hb⟩
  have E0 := hidE (J0.out.next hb)
  clear hb J0
  obtain ⟨f0, f1, f2c, f3⟩ := E0.out.j.j.c
  obtain ⟨s0, s1⟩ := E0.out.j.c
  go_wp2_with fail
  refine (HF1.out _).mono ?_
  rintro e u1 ⟨rfl, hb⟩
  have E1 := hidE (E0.out.next hb)
  clear hb E0
  obtain ⟨f0, f1, f2c, f3⟩ := E1.out.j.j.c
  obtain ⟨s0, s1⟩ := E1.out.j.c
  go_wp2_with fail
  refine (HAL.out _).mono ?_
  rintro e u9 ⟨rfl, hb⟩
  have E9 := hidE (E1.out.next hb)
  clear hb E1
  go_wp2_with fail
  go_ret
  exact ⟨by simp, E9.out.j.j.b⟩
 have hd : decide ((parts.length : Int) > 60) = false := by simp; omega
 have hd' : decide (60 < parts.length) = false := by simp; omega
 have HPL60 := hidE (show parts.length ≤ 60 by omega)
 clear hs hf1 hv hfl
 go_enter Tryz.func13, Tryz.ntmps13
 go_upto_region 1 with fail
 rw [← hw0]
 clear hw0
 go_wp2_with fail
 refine (HSM.out _).mono ?_
 rintro e w1 ⟨rfl, hb⟩
 have J1 := hidE (J0.out.next hb)
 clear hb J0 f0 f1 f2c f3 s0 s1 HSM
 obtain ⟨f0, f1, f2c, f3⟩ := J1.out.j.j.c
 obtain ⟨s0, s1⟩ := J1.out.j.c
 go_wp2_with fail
 refine (HF1.out _).mono ?_
 rintro e w2 ⟨rfl, hb⟩
 have J2 := hidE (J1.out.next hb)
 clear hb J1 f0 f1 f2c f3 s0 s1 HF1
 obtain ⟨f0, f1, f2c, f3⟩ := J2.out.j.j.c
 obtain ⟨s0, s1⟩ := J2.out.j.c
 go_upto_region 3 with fail
 have ea : Below w2.heap.size w2 (w2.alloc (.cells #[] 81)) := (Below.refl _ _).alloc (Nat.le_refl _) _
 obtain ⟨v3, w3, r3, q3, b3⟩ := append_bounds (w2.alloc (.cells #[] 81)) w2.heap.size (.slice (some ⟨w2.heap.size, 0, none⟩) 0 0) [] (owns_empty (heap_alloc_new _ _) (Nat.le_refl _)) a cap bs (J2.out.j.bd.below ea (Nat.le_refl _)) (by simp) (by omega) ea.size 22
 rw [List.nil_append] at q3
 have hb3 : Below w2.heap.size w2 w3 := ea.trans b3
 obtain ⟨o3, k3, rfl, hbs3, _⟩ := boundsAt_of_out (l := bs) q3
 have J3 := hidE (J2.out.next hb3)
 have G3 := hidE hbs3
 have eb : Below w3.heap.size w3 (w3.alloc (.cells #[] 3)) := (Below.refl _ _).alloc (Nat.le_refl _) _
 obtain ⟨v4, w4, r4, q4, b4⟩ := append_ints (w3.alloc (.cells #[] 3)) w3.heap.size (.slice (some ⟨w3.heap.size, 0, none⟩) 0 0) [] (owns_empty_ints (heap_alloc_new _ _) (Nat.le_refl _)) ap capp parts (J3.out.p.below eb (Nat.le_refl _)) (by simp) (by have := HPL60.out; omega) eb.size 25
 rw [List.nil_append] at q4
 have hb4 : Below w3.heap.size w3 w4 := eb.trans b4
 obtain ⟨o4, k4, rfl, hi4⟩ := owns_intsAt (l := parts) q4
 have J4 := hidE (J3.out.next hb4)
 have G4 := hidE (hbs3.below hb4 (Nat.le_refl _))
 have O4 := hidE hi4
 have HR3 := hidE r3
 have HR4 := hidE r4
 have s1a := (J2.out.next ea).j.c.2
 clear ea r3 q3 b3 hb3 hbs3 eb r4 q4 b4 hb4 hi4 J3 G3 hd hd'
 go_upto_region 5 with (first
  | (at_builtin; refine wpList_op_append rfl (s := .tmp 46) (x := .tmp 48) (t := 22) rfl rfl rfl HR3.out ?_)
  | (at_builtin; refine wpList_op_append rfl (s := .tmp 50) (x := .tmp 51) (t := 25) rfl rfl rfl HR4.out ?_))
 clear HR3 HR4 J2 f0 f1 f2c f3 s0 s1 s1a
 obtain ⟨wA, rfl⟩ : ∃ z : World, z = w4 := ⟨w4, rfl⟩
 obtain ⟨f0, f1, f2c, f3⟩ := J4.out.j.j.c
 go_wp2_with fail
 refine (HWE.out _ J4.out).mono ?_
 rintro e w5 ⟨⟨v5, rfl, ho5⟩, hb⟩
 obtain ⟨o1, c1, rfl, hm1, hw1⟩ := wr_of ho5
 have W1 := hidE hw1
 have J5 := hidE (J4.out.next hb)
 have B5 := hidE hb
 clear hb ho5 hw1 f0 f1 f2c f3
 obtain ⟨n1, hn1⟩ : ∃ n, WL.length = n := ⟨_, rfl⟩
 have HN1 := hidE hn1
 rw [hn1] at W1 hm1 ⊢
 clear hn1
 obtain ⟨f0, f1, f2c, f3⟩ := J5.out.j.j.c
 obtain ⟨s0, s1⟩ := J5.out.j.c
 obtain ⟨⟨lo, hi, er⟩, hlhe⟩ : ∃ t, boundsV (fitE F N bs [i]) (consP N bs) S R = t := ⟨_, rfl⟩
 have HBV := hidE hlhe
 clear hlhe
 go_wp2_with fail
 refine (HBO.out _ J5.out).mono ?_
 rintro e w6 ⟨hpq, hb⟩
 obtain ⟨x2, x3, x4, x5, n2, n3, n4, n5, c2, c3, c4, c5, he, hw2, hw3, hw4, hw5, hnn⟩ := hpq.look3 (fun p q => (HLN.out p q).1) (fun p q => (HLN.out p q).2)
 have HNN := hidE hnn
 clear hnn
 rw [HBV.out] at he
 subst he
 have J6 := hidE (J5.out.next hb)
 have B6 := hidE (B5.out.trans (hb.mono B5.out.size))
 have W16 := hidE (W1.out.next hb)
 have W26 := hidE (hw2.mono B5.out.size)
 have W36 := hidE (hw3.mono B5.out.size)
 have W46 := hidE (hw4.mono B5.out.size)
 have W56 := hidE (hw5.mono B5.out.size)
 clear hb hpq hw2 hw3 hw4 hw5 J5 B5 W1 f0 f1 f2c f3 s0 s1
 go_upto_region 7 with fail
 obtain ⟨w7, hw7⟩ : ∃ W, W = w6.alloc (.cells #[.int .i64 lo, .int .i64 hi, .slice x2 n2 c2, .slice x3 n3 c3, .slice x4 n4 c4, .slice x5 n5 c5] 76) := ⟨_, rfl⟩
 rw [← hw7]
 have bx : Below w6.heap.size w6 w7 := by rw [hw7]; exact (Below.refl _ _).alloc (Nat.le_refl _) _
 have X7 := hidE (show XS wA [(w6.heap.size, .cells #[.int .i64 lo, .int .i64 hi, .slice x2 n2 c2, .slice x3 n3 c3, .slice x4 n4 c4, .slice x5 n5 c5] 76)] [(o1, n1), (x2, n2), (x3, n3), (x4, n4), (x5, n5)] w7 from ⟨B6.out.trans (bx.mono B6.out.size), by rw [hw7]; exact Kb.alloc (L := []) trivial, fun p hp => by
  simp only [List.mem_cons, List.not_mem_nil, or_false] at hp
  rcases hp with rfl | rfl | rfl | rfl | rfl
  ·exact W16.out.next bx
  ·exact W26.out.next bx
  ·exact W36.out.next bx
  ·exact W46.out.next bx
  ·exact W56.out.next bx⟩)
 obtain ⟨gX, hgX⟩ : ∃ z, w6.heap.size = z := ⟨_, rfl⟩
 rw [hgX] at X7 ⊢
 clear hw7 bx hgX J6 B6 W16 W26 W36 W46 W56
 go_upto_block 0 with fail
 go_cut [] (fun wx => Hid (XS wA [(gX, .cells #[.int .i64 lo, .int .i64 hi, .slice x2 n2 c2, .slice x3 n3 c3, .slice x4 n4 c4, .slice x5 n5 c5] 76)] [(o1, n1), (x2, n2), (x3, n3), (x4, n4), (x5, n5)] wx))
 case first =>
  go_wp2_with fail
  go_loopw [68] (fun ix wr => ∃ k : Nat, k ≤ n1 ∧ ix = .int .i64 k ∧ Hid (XS wA [(gX, .cells #[.int .i64 lo, .int .i64 hi, .slice x2 n2 c2, .slice x3 n3 c3, .slice x4 n4 c4, .slice x5 n5 c5] 76)] [(o1, n1), (x2, n2), (x3, n3), (x4, n4), (x5, n5)] wr)) (fun ix _ => n1 - (intOf ix).toNat)
  case atStart => exact ⟨0, Nat.zero_le _, rfl, X7⟩
  case round =>
   obtain ⟨k, hk, rfl, HX⟩ := hrel
   obtain ⟨wx, rfl⟩ : ∃ z : World, z = wr := ⟨wr, rfl⟩
   by_cases hlt : k < n1
   ·obtain ⟨gg, cur, rfl, hg1, hg3, hg4⟩ := (HX.out.ls _ (List.mem_cons_self ..)).resolve_left (by dsimp only; omega)
    dsimp only at hg3 hg4
    obtain ⟨u0, hu0⟩ := get_some (show k < cur.size by omega)
    have e0 : wx.cell? ⟨gg, k, none⟩ = some u0 := ce hg3 hu0
    have fz : wx.frozen? ⟨gg, k, none⟩ = false := frozen_of_row _ _ _ _ _ hg3
    have HX2 := hidE (HX.out.set (i := k) hg3 hg1 (fun p hp => by
     simp only [List.mem_cons, List.not_mem_nil, or_false] at hp
     subst hp
     exact blk_ne HX.out.bx.1 hg3 (by decide)) (.int .i64 7))
    have HLT := hidE hlt
    clear hu0 hg3 hg4
    go_wp2_with fail
    go_roundw
    case rel => exact ⟨k + 1, HLT.out, by go_num, HX2⟩
    case measure => have := HLT.out; simp [intOf]; omega
   ·obtain rfl : k = n1 := by omega
    go_wp2_with fail
    go_meet
    exact HX
 case rest =>
 obtain ⟨w8, rfl⟩ : ∃ z : World, z = wc := ⟨wc, rfl⟩
 have X8 := hcut
 clear hcut X7
 have z2 := ce (i := 2) X8.out.bx.1 rfl
 have z3 := ce (i := 3) X8.out.bx.1 rfl
 have z4 := ce (i := 4) X8.out.bx.1 rfl
 have z5 := ce (i := 5) X8.out.bx.1 rfl
 go_upto_block 2 with fail
 obtain ⟨w9, hw9⟩ : ∃ W, W = w8.alloc (.cells #[.slice x2 n2 c2, .slice x3 n3 c3, .slice x4 n4 c4, .slice x5 n5 c5] 25) := ⟨_, rfl⟩
 rw [← hw9]
 have bx : Below w8.heap.size w8 w9 := by rw [hw9]; exact (Below.refl _ _).alloc (Nat.le_refl _) _
 have X9 := hidE (show XS wA [(w8.heap.size, .cells #[.slice x2 n2 c2, .slice x3 n3 c3, .slice x4 n4 c4, .slice x5 n5 c5] 25), (gX, .cells #[.int .i64 lo, .int .i64 hi, .slice x2 n2 c2, .slice x3 n3 c3, .slice x4 n4 c4, .slice x5 n5 c5] 76)] [(o1, n1), (x2, n2), (x3, n3), (x4, n4), (x5, n5)] w9 from ⟨(X8.out.next bx).bl, by rw [hw9]; exact Kb.alloc X8.out.bx, (X8.out.next bx).ls⟩)
 obtain ⟨gL, hgL⟩ : ∃ z, w8.heap.size = z := ⟨_, rfl⟩
 rw [hgL] at X9 ⊢
 have HPK := hidE (show ∀ j, j < 4 → ∃ o n c, (#[.slice x2 n2 c2, .slice x3 n3 c3, .slice x4 n4 c4, .slice x5 n5 c5] : Array Value)[j]? = some (.slice o n c) ∧ (o, n) ∈ [(o1, n1), (x2, n2), (x3, n3), (x4, n4), (x5, n5)] ∧ n ≤ 1000000 from by
  obtain ⟨m2, m3, m4, m5⟩ := HNN.out
  intro j hj
  rcases (show j = 0 ∨ j = 1 ∨ j = 2 ∨ j = 3 by omega) with rfl | rfl | rfl | rfl
  ·exact ⟨_, _, _, rfl, by simp, m2⟩
  ·exact ⟨_, _, _, rfl, by simp, m3⟩
  ·exact ⟨_, _, _, rfl, by simp, m4⟩
  ·exact ⟨_, _, _, rfl, by simp, m5⟩)
 clear hw9 bx hgL X8 z2 z3 z4 z5
 go_cut [] (fun wx => Hid (XS wA [(gX, .cells #[.int .i64 lo, .int .i64 hi, .slice x2 n2 c2, .slice x3 n3 c3, .slice x4 n4 c4, .slice x5 n5 c5] 76)] [(o1, n1), (x2, n2), (x3, n3), (x4, n4), (x5, n5)] wx))
 case first =>
  go_wp2_with fail
  go_loopw [85] (fun ix wr => ∃ j : Nat, j ≤ 4 ∧ ix = .int .i64 j ∧ Hid (XS wA [(gL, .cells #[.slice x2 n2 c2, .slice x3 n3 c3, .slice x4 n4 c4, .slice x5 n5 c5] 25), (gX, .cells #[.int .i64 lo, .int .i64 hi, .slice x2 n2 c2, .slice x3 n3 c3, .slice x4 n4 c4, .slice x5 n5 c5] 76)] [(o1, n1), (x2, n2), (x3, n3), (x4, n4), (x5, n5)] wr)) (fun ix _ => 4 - (intOf ix).toNat)
  case atStart => exact ⟨0, Nat.zero_le _, rfl, X9⟩
  case round =>
   obtain ⟨j, hj, rfl, HX⟩ := hrel
   obtain ⟨wx, rfl⟩ : ∃ z : World, z = wr := ⟨wr, rfl⟩
   by_cases hlt : j < 4
   ·obtain ⟨o, n, c, hcell, hmem, hnm⟩ := HPK.out j hlt
    have e0 : wx.cell? ⟨gL, j, none⟩ = some (.slice o n c) := ce HX.out.bx.1 hcell
    have HMEM := hidE hmem
    have HLT := hidE hlt
    clear hcell hmem
    go_wp2_with fail
    clear e0
    go_loopw [91] (fun ix wr => ∃ k : Nat, k ≤ n ∧ ix = .int .i64 k ∧ Hid (XS wA [(gL, .cells #[.slice x2 n2 c2, .slice x3 n3 c3, .slice x4 n4 c4, .slice x5 n5 c5] 25), (gX, .cells #[.int .i64 lo, .int .i64 hi, .slice x2 n2 c2, .slice x3 n3 c3, .slice x4 n4 c4, .slice x5 n5 c5] 76)] [(o1, n1), (x2, n2), (x3, n3), (x4, n4), (x5, n5)] wr)) (fun ix _ => n - (intOf ix).toNat)
    case atStart => exact ⟨0, Nat.zero_le _, rfl, HX⟩
    case round =>
     obtain ⟨k, hk, rfl, HY⟩ := hrel
     obtain ⟨wy, rfl⟩ : ∃ z : World, z = wr := ⟨wr, rfl⟩
     by_cases hlk : k < n
     ·obtain ⟨gg, cur, ho, hg1, hg3, hg4⟩ := (HY.out.ls _ HMEM.out).resolve_left (by dsimp only; omega)
      dsimp only at ho hg3 hg4
      subst ho
      obtain ⟨u0, hu0⟩ := get_some (show k < cur.size by omega)
      have e0 : wy.cell? ⟨gg, k, none⟩ = some u0 := ce hg3 hu0
      have fz : wy.frozen? ⟨gg, k, none⟩ = false := frozen_of_row _ _ _ _ _ hg3
      have HX2 := hidE (HY.out.set (i := k) hg3 hg1 (fun p hp => by
       simp only [List.mem_cons, List.not_mem_nil, or_false] at hp
       rcases hp with rfl | rfl
       ·exact blk_ne HY.out.bx.1 hg3 (by decide)
       ·exact blk_ne HY.out.bx.2.1 hg3 (by decide)) (.int .i64 (-1)))
      have HLK := hidE hlk
      clear hu0 hg3 hg4
      go_wp2_with fail
      go_roundw
      case rel => exact ⟨k + 1, HLK.out, by go_num, HX2⟩
      case measure => have := HLK.out; simp [intOf]; omega
     ·obtain rfl : k = n := by omega
      go_wp2_with fail
      go_roundw
      case rel => exact ⟨j + 1, HLT.out, by go_num, HY⟩
      case measure => have := HLT.out; simp [intOf]; omega
   ·obtain rfl : j = 4 := by omega
    go_wp2_with fail
    go_meet
    exact hidE ⟨HX.out.bl, HX.out.bx.2, HX.out.ls⟩
 case rest =>
 obtain ⟨wb, rfl⟩ : ∃ z : World, z = wc := ⟨wc, rfl⟩
 have XB := hcut
 clear hcut X9 HPK
 have JB := hidE (J4.out.next XB.out.bl)
 obtain ⟨f0, f1, f2c, f3⟩ := JB.out.j.j.c
 go_wp2_with fail
 refine (HPI.out _ JB.out).mono ?_
 rintro e wd ⟨⟨v6, rfl, ho6⟩, hb⟩
 obtain ⟨o6, c6, rfl, hm6, hw6⟩ := wr_of ho6
 have W6 := hidE (hw6.mono XB.out.bl.size)
 have XD := hidE (XB.out.next hb)
 clear hb ho6 hw6 XB JB f0 f1 f2c f3
 obtain ⟨n6, hn6⟩ : ∃ n, PL.length = n := ⟨_, rfl⟩
 rw [hn6] at W6 hm6 ⊢
 clear hn6
 go_upto_block 6 with fail
 go_cut [] (fun wx => Hid (XS wA [(gX, .cells #[.int .i64 lo, .int .i64 hi, .slice x2 n2 c2, .slice x3 n3 c3, .slice x4 n4 c4, .slice x5 n5 c5] 76)] [(o1, n1), (x2, n2), (x3, n3), (x4, n4), (x5, n5)] wx))
 case first =>
  go_wp2_with fail
  go_loopw [107] (fun ix wr => ∃ k : Nat, k ≤ n6 ∧ ix = .int .i64 k ∧ Hid (XS wA [(gX, .cells #[.int .i64 lo, .int .i64 hi, .slice x2 n2 c2, .slice x3 n3 c3, .slice x4 n4 c4, .slice x5 n5 c5] 76)] [(o1, n1), (x2, n2), (x3, n3), (x4, n4), (x5, n5)] wr) ∧ Hid (Wr wA.heap.size 53 4 wr o6 n6)) (fun ix _ => n6 - (intOf ix).toNat)
  case atStart => exact ⟨0, Nat.zero_le _, rfl, XD, W6⟩
  case round =>
   obtain ⟨k, hk, rfl, HX, HW⟩ := hrel
   obtain ⟨wx, rfl⟩ : ∃ z : World, z = wr := ⟨wr, rfl⟩
   by_cases hlt : k < n6
   ·obtain ⟨gg, cur, rfl, hg1, hg3, hg4⟩ := HW.out.resolve_left (by omega)
    obtain ⟨u0, hu0⟩ := get_some (show k * 4 < cur.size by omega)
    obtain ⟨u1, hu1⟩ := get_some (show k * 4 + 1 < cur.size by omega)
    obtain ⟨u2, hu2⟩ := get_some (show k * 4 + 2 < cur.size by omega)
    obtain ⟨u3, hu3⟩ := get_some (show k * 4 + 3 < cur.size by omega)
    have e0 : wx.cell? ⟨gg, k * 4, none⟩ = some u0 := ce hg3 hu0
    have e1' : wx.cell? ⟨gg, k * 4 + 1, none⟩ = some u1 := ce hg3 hu1
    have e2' : wx.cell? ⟨gg, k * 4 + 2, none⟩ = some u2 := ce hg3 hu2
    have e3' : wx.cell? ⟨gg, k * 4 + 3, none⟩ = some u3 := ce hg3 hu3
    have fz : ∀ i, wx.frozen? ⟨gg, i, none⟩ = false := fun i => frozen_of_row _ _ _ _ _ hg3
    have hne : ∀ p ∈ ([(gX, .cells #[.int .i64 lo, .int .i64 hi, .slice x2 n2 c2, .slice x3 n3 c3, .slice x4 n4 c4, .slice x5 n5 c5] 76)] : List (Nat × Obj)), p.1 ≠ gg := fun p hp => by
     simp only [List.mem_cons, List.not_mem_nil, or_false] at hp
     subst hp
     exact blk_ne HX.out.bx.1 hg3 (by decide)
    have HX2 := hidE (fun (u0 u1 u2 u3 : Value) => show XS wA [(gX, .cells #[.int .i64 lo, .int .i64 hi, .slice x2 n2 c2, .slice x3 n3 c3, .slice x4 n4 c4, .slice x5 n5 c5] 76)] [(o1, n1), (x2, n2), (x3, n3), (x4, n4), (x5, n5)] ((((wx.setCell ⟨gg, k * 4, none⟩ u0).setCell ⟨gg, k * 4 + 1, none⟩ u1).setCell ⟨gg, k * 4 + 2, none⟩ u2).setCell ⟨gg, k * 4 + 3, none⟩ u3) ∧ Wr wA.heap.size 53 4 ((((wx.setCell ⟨gg, k * 4, none⟩ u0).setCell ⟨gg, k * 4 + 1, none⟩ u1).setCell ⟨gg, k * 4 + 2, none⟩ u2).setCell ⟨gg, k * 4 + 3, none⟩ u3) (some ⟨gg, 0, none⟩) n6 from by
     have g1 := heap_setCell_same _ _ (k * 4) _ _ u0 hg3
     have g2 := heap_setCell_same _ _ (k * 4 + 1) _ _ u1 g1
     have g3 := heap_setCell_same _ _ (k * 4 + 2) _ _ u2 g2
     exact ⟨(((HX.out.set hg3 hg1 hne u0).set g1 hg1 hne u1).set g2 hg1 hne u2).set g3 hg1 hne u3, (((HW.out.set hg3 u0).set g1 u1).set g2 u2).set g3 u3⟩)
    have HLT := hidE hlt
    clear hu0 hu1 hu2 hu3 hg3 hg4 hne
    go_wp2_with fail
    go_roundw
    case rel => exact ⟨k + 1, HLT.out, by go_num, hidE (HX2.out _ _ _ _).1, hidE (HX2.out _ _ _ _).2⟩
    case measure => have := HLT.out; simp [intOf]; omega
   ·obtain rfl : k = n6 := by omega
    go_wp2_with fail
    go_meet
    exact HX
 case rest =>
 obtain ⟨we, rfl⟩ : ∃ z : World, z = wc := ⟨wc, rfl⟩
 have XE := hcut
 clear hcut XD W6
 have JE := hidE (J4.out.next XE.out.bl)
 go_wp2_with fail
 refine (HSH.out _ JE.out).mono ?_
 rintro e wf ⟨⟨v7, rfl, ho7⟩, hb⟩
 obtain ⟨o7, c7, rfl, hm7, hw7⟩ := wr_of ho7
 have W7 := hidE (hw7.mono XE.out.bl.size)
 have XF := hidE (XE.out.next hb)
 clear hb ho7 hw7 XE JE
 obtain ⟨n7, hn7⟩ : ∃ n, SL.length = n := ⟨_, rfl⟩
 rw [hn7] at W7 hm7 ⊢
 clear hn7
 go_upto_block 8 with fail
 go_cut [] (fun wx => Hid (XS wA [(gX, .cells #[.int .i64 lo, .int .i64 hi, .slice x2 n2 c2, .slice x3 n3 c3, .slice x4 n4 c4, .slice x5 n5 c5] 76)] [(o1, n1), (x2, n2), (x3, n3), (x4, n4), (x5, n5)] wx))
 case first =>
  go_wp2_with fail
  go_loopw [122] (fun ix wr => ∃ k : Nat, k ≤ n7 ∧ ix = .int .i64 k ∧ Hid (XS wA [(gX, .cells #[.int .i64 lo, .int .i64 hi, .slice x2 n2 c2, .slice x3 n3 c3, .slice x4 n4 c4, .slice x5 n5 c5] 76)] [(o1, n1), (x2, n2), (x3, n3), (x4, n4), (x5, n5)] wr) ∧ Hid (Wr wA.heap.size 3 1 wr o7 n7)) (fun ix _ => n7 - (intOf ix).toNat)
  case atStart => exact ⟨0, Nat.zero_le _, rfl, XF, W7⟩
  case round =>
   obtain ⟨k, hk, rfl, HX, HW⟩ := hrel
   obtain ⟨wx, rfl⟩ : ∃ z : World, z = wr := ⟨wr, rfl⟩
   by_cases hlt : k < n7
   ·obtain ⟨gg, cur, rfl, hg1, hg3, hg4⟩ := HW.out.resolve_left (by omega)
    obtain ⟨u0, hu0⟩ := get_some (show k < cur.size by omega)
    have e0 : wx.cell? ⟨gg, k, none⟩ = some u0 := ce hg3 hu0
    have fz : wx.frozen? ⟨gg, k, none⟩ = false := frozen_of_row _ _ _ _ _ hg3
    have HX2 := hidE (HX.out.set (i := k) hg3 hg1 (fun p hp => by
     simp only [List.mem_cons, List.not_mem_nil, or_false] at hp
     subst hp
     exact blk_ne HX.out.bx.1 hg3 (by decide)) (.int .i64 (-1)))
    have HW2 := hidE (HW.out.set (i := k) hg3 (.int .i64 (-1)))
    have HLT := hidE hlt
    clear hu0 hg3 hg4
    go_wp2_with fail
    go_roundw
    case rel => exact ⟨k + 1, HLT.out, by go_num, HX2, HW2⟩
    case measure => have := HLT.out; simp [intOf]; omega
   ·obtain rfl : k = n7 := by omega
    go_wp2_with fail
    go_meet
    exact HX
 case rest =>
 obtain ⟨wg, rfl⟩ : ∃ z : World, z = wc := ⟨wc, rfl⟩
 have XG := hcut
 clear hcut XF W7
 have JG := hidE (J4.out.next XG.out.bl)
 have GG := hidE (G4.out.below XG.out.bl (Nat.le_refl _))
 have OG := hidE (O4.out.below XG.out.bl (Nat.le_refl _))
 have QG := hidE XG.out.bx
 have BG := hidE XG.out.bl
 clear XG G4 O4
 obtain ⟨f0, f1, f2c, f3⟩ := JG.out.j.j.c
 go_wp2_with fail
 refine (HWE.out _ JG.out).mono ?_
 rintro e wh ⟨⟨v8, rfl, ho8⟩, hb⟩
 obtain ⟨o8, c8, rfl, hi8, _⟩ := owns_cap ho8
 have JH := hidE (JG.out.next hb)
 have GH := hidE (GG.out.below hb (Nat.le_refl _))
 have OH := hidE (OG.out.below hb (Nat.le_refl _))
 have QH := hidE (QG.out.next hb)
 have V8 := hidE hi8
 clear hb ho8 hi8 JG GG OG QG f0 f1 f2c f3
 obtain ⟨f0, f1, f2c, f3⟩ := JH.out.j.j.c
 go_wp2_with fail
 refine (HWR.out _ JH.out).mono ?_
 rintro e wi ⟨⟨v9, rfl, ho9⟩, hb⟩
 obtain ⟨o9, c9, rfl, hi9, _⟩ := owns_cap ho9
 have JI := hidE (JH.out.next hb)
 have GI := hidE (GH.out.below hb (Nat.le_refl _))
 have OI := hidE (OH.out.below hb (Nat.le_refl _))
 have QI := hidE (QH.out.next hb)
 have V8I := hidE (V8.out.below hb (Nat.le_refl _))
 have V9 := hidE hi9
 clear hb ho9 hi9 JH GH OH QH V8 f0 f1 f2c f3
 obtain ⟨f0, f1, f2c, f3⟩ := JI.out.j.j.c
 obtain ⟨s0, s1⟩ := JI.out.j.c
 rw [HN1.out]
 go_wp2_with fail
 refine (HBO.out _ JI.out).mono ?_
 rintro e wj ⟨hpq, hb⟩
 obtain ⟨y2, y3, y4, y5, p2, p3, p4, p5, d2, d3, d4, d5, he, hq2, hq3, hq4, hq5, hnn⟩ := hpq.look3 (fun p q => (HLN.out p q).1) (fun p q => (HLN.out p q).2)
 rw [HBV.out] at he
 subst he
 have JJ := hidE (JI.out.next hb)
 have GJ := hidE (GI.out.below hb (Nat.le_refl _))
 have OJ := hidE (OI.out.below hb (Nat.le_refl _))
 have QJ := hidE (QI.out.next hb)
 have V8J := hidE (V8I.out.below hb (Nat.le_refl _))
 have V9J := hidE (V9.out.below hb (Nat.le_refl _))
 clear hb hpq hq2 hq3 hq4 hq5 hnn JI GI OI QI V8I V9 f0 f1 f2c f3 s0 s1
 go_upto_region 36 with fail
 obtain ⟨wk, hwk⟩ : ∃ W, W = wj.alloc (.cells #[.int .i64 lo, .int .i64 hi, .slice y2 p2 d2, .slice y3 p3 d3, .slice y4 p4 d4, .slice y5 p5 d5] 76) := ⟨_, rfl⟩
 rw [← hwk]
 have bx : Below wj.heap.size wj wk := by rw [hwk]; exact (Below.refl _ _).alloc (Nat.le_refl _) _
 have JK := hidE (JJ.out.next bx)
 have GK := hidE (GJ.out.below bx (Nat.le_refl _))
 have OK := hidE (OJ.out.below bx (Nat.le_refl _))
 have QK := hidE (show Kb _ wk by rw [hwk]; exact Kb.alloc (o := .cells #[.int .i64 lo, .int .i64 hi, .slice y2 p2 d2, .slice y3 p3 d3, .slice y4 p4 d4, .slice y5 p5 d5] 76) QJ.out)
 obtain ⟨gZ, hgZ⟩ : ∃ z, wj.heap.size = z := ⟨_, rfl⟩
 rw [hgZ] at QK ⊢
 have HSA := hidE (same_twice wk o8 o9 c8 c9 WL (by have := HWL.out; omega) (V8J.out.below bx (Nat.le_refl _)) (V9J.out.below bx (Nat.le_refl _)))
 rw [HN1.out] at HSA
 clear hwk bx hgZ JJ GJ OJ QJ V8J V9J
 go_wp2_with fail
 refine HSA.out.mono ?_
 rintro e wl ⟨rfl, hb⟩
 have JL := hidE (JK.out.next hb)
 have GL := hidE (GK.out.below hb (Nat.le_refl _))
 have OL := hidE (OK.out.below hb (Nat.le_refl _))
 have QL := hidE (QK.out.next hb)
 have HSB := hidE (same_twice wl ap o4 capp k4 parts (by have := HPL60.out; omega) JL.out.p OL.out)
 clear hb JK GK OK QK HSA
 go_wp2_with fail
 refine HSB.out.mono ?_
 rintro e wm ⟨rfl, hb⟩
 have JM := hidE (JL.out.next hb)
 have GM := hidE (GL.out.below hb (Nat.le_refl _))
 have QM := hidE (QL.out.next hb)
 clear hb JL GL OL QL HSB
 have z0 := ce (i := 0) QM.out.1 rfl
 have z1 := ce (i := 1) QM.out.1 rfl
 have x0 := ce (i := 0) QM.out.2.1 rfl
 have x1 := ce (i := 1) QM.out.2.1 rfl
 have m0 : ((bs.length : Int) != (bs.length : Int)) = false := by simp
 obtain ⟨s0, s1⟩ := JM.out.j.c
 go_upto_block 10 with fail
 clear z0 z1 x0 x1 m0 s0 s1
 have hbl9 : bs.length ≤ 9223372036854775807 := hl
 go_wp2_with fail
 go_loopw [192] (fun ix wr => ∃ k : Nat, k ≤ bs.length ∧ ix = .int .i64 k ∧ Hid (Below wm.heap.size wm wr)) (fun ix _ => bs.length - (intOf ix).toNat)
 case atStart => exact ⟨0, Nat.zero_le _, rfl, hidE (Below.refl _ _)⟩
 case round =>
  obtain ⟨k, hk, rfl, HB⟩ := hrel
  obtain ⟨wx, rfl⟩ : ∃ z : World, z = wr := ⟨wr, rfl⟩
  by_cases hlt : k < bs.length
  ·have JX := hidE (JM.out.next HB.out)
   obtain ⟨bA, qA, rfl, _, a0, a1, a2, a3⟩ := (GM.out.below HB.out (Nat.le_refl _)).at hlt
   obtain ⟨bB, qB, eB, _, b0, b1, b2, b3⟩ := JX.out.j.bd.at hlt
   obtain ⟨s0, s1⟩ := JX.out.j.c
   rw [eB] at s1
   obtain ⟨q, hq⟩ : ∃ q, bs[k] = q := ⟨_, rfl⟩
   rw [hq] at a0 a1 a2 a3 b0 b1 b2 b3
   obtain ⟨t0, t1, t2, t3⟩ := q
   dsimp only at a0 a1 a2 a3 b0 b1 b2 b3
   have HLT := hidE hlt
   clear hq eB
   go_wp2_with fail
   go_quiet (fail)
   go_wp2_with fail
   go_roundw
   case rel => exact ⟨k + 1, HLT.out, by go_num, hidE (HB.out.trans (below_drewN' _ _))⟩
   case measure => have := HLT.out; simp [intOf]; omega
  ·obtain rfl : k = bs.length := by omega
   have JX := hidE (JM.out.next HB.out)
   go_wp2_with fail
   refine (HAL.out _).mono ?_
   rintro e u9 ⟨rfl, hb⟩
   have E9 := hidE (JX.out.next hb)
   clear hb
   go_wp2_with fail
   go_ret
   exact ⟨by simp, E9.out.j.j.b⟩
end Go.Proofs.YthjmkmjojlfejaaGreat
namespace Go.Proofs.YthjmkmjojlfejaaGreat
open Go Go.ChangeShapes Go.WideShapes Go.ChangeAt Go.RowKit Go.Joins Go.Deep
theorem argOk24 : ArgOk 24 := ⟨by kernel_rfl, of_decide_eq_true (by kernel_rfl)⟩
theorem argOk27 : ArgOk 25 := ⟨by kernel_rfl, of_decide_eq_true (by kernel_rfl)⟩
section
variable {H : Type} {enc : TypeId × Value → H}
theorem bounds_trod {W : World} {n : Nat} {cs : List Value} {x : DataW H × List MemPlace} (h : DataW.trod enc Tryz.prog W 0 (fun _ => true) true n 22 cs = some x) :
 ∃ (a : Option Addr) (cap : Nat) (l : List Bd), cs = [.slice a l.length cap] ∧ BoundsAt W a l ∧ SliceOk a l.length cap ∧ l.length ≤ 9223372036854775807 ∧ ∀ b ∈ l, b.ok := by
 have c44 : Tryz.prog.cellsOf 81 = 4 := by kernel_rfl
 have c3 : Tryz.prog.cellsOf 3 = 1 := by kernel_rfl
 rcases open_slice Tryz.underlying22 h with ⟨h1, _⟩ | ⟨a, len, cap, m, n', D, Pl, hcs, _, hl, hm, hmm, _, hx⟩
 ·exact ⟨none, 0, [], h1, .inl rfl, fun _ => ⟨rfl, rfl⟩, by simp, by simp⟩
 ·have hmm' : m = cap := hmm
  rw [c44] at hx
  obtain ⟨l, hll, hlp⟩ := list_of (p := fun i (b : Bd) => (W.cell? ((a.add (i * 4)).add 0) = some (.int .i64 b.src) ∧ W.cell? ((a.add (i * 4)).add 1) = some (.int .i64 b.dst) ∧ W.cell? ((a.add (i * 4)).add 2) = some (.int .i64 b.most) ∧ W.cell? ((a.add (i * 4)).add 3) = some (.int .i64 b.rcd)) ∧ b.ok) len (fun i hi => by
   obtain ⟨cs', hc, ht⟩ := hx i (by omega)
   obtain ⟨_, hlen, hat⟩ := World.cells?_some hc
   match cs', hlen with
   | [u0, u1, u2, u3], _ =>
     obtain ⟨ys, n2, _, _, _, hyl, hf⟩ := DataW.trod_struct Tryz.underlying81 ht
     match ys, hyl with
     | [y0, y1, y2, y3], _ =>
       have f0 : DataW.trod enc Tryz.prog W 0 (fun _ => true) true n2 3 (([u0, u1, u2, u3].drop 0).take (Tryz.prog.cellsOf 3)) = some y0 := hf 0 _ rfl
       have f1 : DataW.trod enc Tryz.prog W 0 (fun _ => true) true n2 3 (([u0, u1, u2, u3].drop 1).take (Tryz.prog.cellsOf 3)) = some y1 := hf 1 _ rfl
       have f2 : DataW.trod enc Tryz.prog W 0 (fun _ => true) true n2 3 (([u0, u1, u2, u3].drop 2).take (Tryz.prog.cellsOf 3)) = some y2 := hf 2 _ rfl
       have f3 : DataW.trod enc Tryz.prog W 0 (fun _ => true) true n2 3 (([u0, u1, u2, u3].drop 3).take (Tryz.prog.cellsOf 3)) = some y3 := hf 3 _ rfl
       rw [c3] at f0 f1 f2 f3
       obtain ⟨k0, e0, o0⟩ := int_cell (v := u0) (y := y0) f0
       obtain ⟨k1, e1, o1⟩ := int_cell (v := u1) (y := y1) f1
       obtain ⟨k2, e2, o2⟩ := int_cell (v := u2) (y := y2) f2
       obtain ⟨k3, e3, o3⟩ := int_cell (v := u3) (y := y3) f3
       subst e0 e1 e2 e3
       exact ⟨⟨k0, k1, k2, k3⟩, ⟨hat 0 (by omega), hat 1 (by omega), hat 2 (by omega), hat 3 (by omega)⟩, o0, o1, o2, o3⟩)
  have hm2 : cap ≤ 9223372036854775807 := hm
  refine ⟨some a, cap, l, by rw [hcs, hll], ?_, (fun e => by cases e), by omega, fun x hx => ?_⟩
  ·by_cases h0 : len = 0
   ·exact .inl (List.length_eq_zero_iff.1 (by omega))
   ·have z := (hlp 0 (by omega)).1.1
    have ha : a.spot = none := by
     have := (cell_plain z).1
     unfold Addr.add at this
     simpa using this
    obtain ⟨b, off, sp⟩ := a
    simp only at ha
    subst ha
    simp only [add_plain] at hlp
    refine .inr ⟨b, off, rfl, ?_, fun i hi => (hlp i hi).1⟩
    exact (cell_plain (hlp 0 (by omega)).1.1).2
  ·obtain ⟨i, hi, rfl⟩ := List.getElem_of_mem hx
   exact (hlp i hi).2
set_option maxRecDepth 100000 in
theorem open_list {b0 : Nat} {W : World} {v : Value} {d : DataW H} {p : List MemPlace} (hv : Value.okWide Tryz.prog W .any b0 25 v) (h : DataW.Trod enc Tryz.prog W 0 (fun _ => true) true 25 v d p) :
 ∃ (a : Option Addr) (cap : Nat) (l : List Int), v = .slice a l.length cap ∧ IntsAt W a l ∧ SliceOk a l.length cap ∧ l.length ≤ 9223372036854775807 ∧ ∀ x ∈ l, i64ok x := by
 obtain ⟨n, hn⟩ := h
 obtain ⟨a, cap, l, h1, h2⟩ := ints_trod hn
 have hc : v = .slice a l.length cap := by
  have hs := okWide_slice Tryz.underlying25 hv
  obtain ⟨a', n', c', rfl⟩ := hs
  simpa [Value.cells] using h1
 exact ⟨a, cap, l, hc, h2⟩
set_option maxRecDepth 100000 in
theorem open_sys {b0 : Nat} {W : World} {v : Value} {d : DataW H} {p : List MemPlace} (hv : Value.okWide Tryz.prog W .any b0 24 v) (h : DataW.Trod enc Tryz.prog W 0 (fun _ => true) true 24 v d p) :
 ∃ (N : Int) (a : Option Addr) (cap : Nat) (bs : List Bd), v = .agg #[.int .i64 N, .slice a bs.length cap] ∧ i64ok N ∧ BoundsAt W a bs ∧ SliceOk a bs.length cap ∧ bs.length ≤ 9223372036854775807 ∧ ∀ b ∈ bs, b.ok := by
 obtain ⟨v0, v1, y0, y1, n, rfl, _, _, h0, h1⟩ := open_agg2 Tryz.underlying24 (by kernel_rfl) (by kernel_rfl) hv h
 obtain ⟨N, rfl, hN⟩ := int_cell h0
 obtain ⟨a, cap, bs, e, h2⟩ := bounds_trod h1
 exact ⟨N, a, cap, bs, by simpa using e, hN, h2⟩
end
end Go.Proofs.YthjmkmjojlfejaaGreat
