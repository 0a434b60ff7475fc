/- Merged text 11 of the base: Mf5, Ng0, Ne, Nf. No conditions beyond those stated. -/
import Derived.Test.YthjmkmjojlfejaaGreatB10
import Derived.Test.YthjmkmjojlfejaaGreatB08
import Derived.Test.YthjmkmjojlfejaaGreatB02
import Derived.Deep.LoopGhost
import Derived.Deep.WholeRow
namespace Go.Proofs.YthjmkmjojlfejaaGreat
theorem arcs_at {bs : List Bd} {flow : List Int} {a : Arc} (h : a ∈ arcsP bs flow) : ∃ hj : a.bd < bs.length, (a = fwdArc a.bd bs[a.bd] ∨ (a = bwdArc a.bd bs[a.bd] ∧ 0 < flow.getD a.bd 0)) := by
 obtain ⟨j, hj, h⟩ := mem_arcsP.1 h
 have e : a.bd = j := by rcases h with h | ⟨h, _⟩ <;> rw [h] <;> rfl
 subst e
 exact ⟨hj, h⟩
theorem arcs_back {bs : List Bd} {flow : List Int} {a : Arc} (h : a ∈ arcsP bs flow) (hb : a.back = true) : 0 < flow.getD a.bd 0 := by
 obtain ⟨hj, h | h⟩ := arcs_at h
 ·rw [h] at hb; cases hb
 ·exact h.2
theorem way_bds {N : Nat} {bs : List Bd} {flow : List Int} {p : Int} {s : Sh} {n : Nat} {v : Int} {l : List Arc} (h : Way N (arcsP bs flow) p s n v l) : (l.map Arc.bd).Nodup := by
 induction h with
 | nil => simp
 | @cons n v l hvp h0 h1 hk hA hd ht hup hw ih =>
   rw [List.map_cons, List.nodup_cons]
   refine ⟨fun hm => ?_, ih⟩
   obtain ⟨x, hx, e⟩ := List.mem_map.1 hm
   obtain ⟨hxA, k, hkn, u1, u2⟩ := hw.depths x hx
   obtain ⟨ha, qa⟩ := arcs_at hA
   obtain ⟨hb, qb⟩ := arcs_at hxA
   have hdir : x.dst = v ∨ x.src = v := by
    have e2 : bs[x.bd] = bs[(getA s.by_ v).bd] := by simp only [e]
    rw [e2] at qb
    rcases qa with qa | ⟨qa, _⟩ <;> rcases qb with qb | ⟨qb, _⟩ <;> rw [qb] <;> rw [qa] at hd <;> simp only [fwdArc, bwdArc] at hd ⊢
    ·exact .inl hd
    ·exact .inr hd
    ·exact .inr hd
    ·exact .inl hd
   rcases hdir with q | q
   ·rw [q] at u1
    have := Up.det u1 hup
    omega
   ·rw [q] at u2
    have := Up.det u2 hup
    omega
theorem way_tight {N : Nat} {A : List Arc} {p : Int} {s : Sh} (HB : ByInv N A p s) {n : Nat} {v : Int} {l : List Arc} (h : Way N A p s n v l) : ∀ a ∈ l, a ∈ A ∧ getK s.k a.src = true ∧ getK s.k a.dst = true ∧ getI s.c a.dst = getI s.c a.src + a.cost := by
 induction h with
 | nil => intro a ha; cases ha
 | @cons n v l hvp h0 h1 hk hA hd ht hup hw ih =>
   intro a ha
   rcases List.mem_cons.1 ha with rfl | ha
   ·exact ⟨hA, (HB.arc v h0 h1 hk hvp).2.2.1, by rw [hd]; exact hk, by rw [hd]; exact ht⟩
   ·exact ih a ha
theorem move1_len (m : Int) (flow : List Int) (a : Arc) : (move1 m flow a).length = flow.length := by simp [move1]
theorem moveP_len (m : Int) : ∀ (l : List Arc) (flow : List Int), (moveP m l flow).length = flow.length
 | [], _ => rfl
 | a :: l, flow => by show (moveP m l (move1 m flow a)).length = _; rw [moveP_len m l, move1_len]
def sgn (m : Int) (a : Arc) : Int := if a.back then -m else m
theorem move1_get (m : Int) (flow : List Int) (a : Arc) (j : Nat) : (move1 m flow a).getD j 0 = flow.getD j 0 + if a.bd = j ∧ a.bd < flow.length then sgn m a else 0 := by
 unfold move1 sgn
 rw [getD_set_at]
 split
 ·rename_i h
  obtain ⟨h1, _⟩ := h
  subst h1
  split <;> omega
 ·omega
theorem moveP_other {m : Int} {j : Nat} : ∀ (l : List Arc) (flow : List Int), (∀ a ∈ l, a.bd ≠ j) → (moveP m l flow).getD j 0 = flow.getD j 0
 | [], _, _ => rfl
 | a :: l, flow, h => by
   show (moveP m l (move1 m flow a)).getD j 0 = _
   rw [moveP_other l _ (fun x hx => h x (List.mem_cons_of_mem _ hx)), move1_get, if_neg (fun q => h a (List.mem_cons_self ..) q.1)]
   omega
theorem much_le (flow : List Int) : ∀ (l : List Arc) (m : Int), muchP flow l m ≤ m ∧ ∀ a ∈ l, a.back = true → muchP flow l m ≤ flow.getD a.bd 0
 | [], m => ⟨Int.le_refl _, fun a h => by cases h⟩
 | x :: l, m => by
   obtain ⟨h1, h2⟩ := much_le flow l (less1 flow m x)
   have h3 : less1 flow m x ≤ m ∧ (x.back = true → less1 flow m x ≤ flow.getD x.bd 0) := by
    unfold less1
    split
    ·exact ⟨by omega, fun _ => by omega⟩
    ·rename_i h; exact ⟨Int.le_refl _, fun q => absurd q h⟩
   show muchP flow l (less1 flow m x) ≤ m ∧ _
   refine ⟨by omega, fun a ha hb => ?_⟩
   show muchP flow l (less1 flow m x) ≤ _
   rcases List.mem_cons.1 ha with rfl | ha
   ·have := h3.2 hb; omega
   ·exact h2 a ha hb
theorem much_pos (flow : List Int) : ∀ (l : List Arc) (m : Int), 0 < m → (∀ a ∈ l, a.back = true → 0 < flow.getD a.bd 0) → 0 < muchP flow l m
 | [], _, h, _ => h
 | x :: l, m, h, hl => by
   refine much_pos flow l (less1 flow m x) ?_ fun a ha => hl a (List.mem_cons_of_mem _ ha)
   unfold less1
   split
   ·rename_i hb
    have := hl x (List.mem_cons_self ..) hb
    omega
   ·exact h
theorem shOne_whole (p : Nat) : (shOne p).whole := ⟨by simp [shOne], by simp [shOne], by simp [shOne]⟩
theorem shAll_whole {N : Nat} (hN : N ≤ 128) : (shAll N).whole := ⟨by simp [shAll], by simp [shAll]; omega, by simp [shAll]⟩
theorem shOne_mid {N : Nat} {bs : List Bd} {flow : List Int} {p : Nat} (hN : N ≤ 128) (hv : AllValid N bs) (hn : NoNeg (resid (arcsP bs flow))) (hp : p < N) :
 ∀ s, MidA (arcsP bs flow) (shOne p) s → ∀ v : Int, 0 ≤ v → v < N → getK s.k v = true → -1000000000 ≤ getI s.c v ∧ getI s.c v ≤ 1000000000 := by
 intro s hs v v0 v1 hk
 have := ((shOne_inv (A := arcsP bs flow) hN hp).1.mid hN (arcs_valid flow hv) hs).bounds hN (arcs_valid flow hv) hn v0 v1 hk
 omega
theorem shAll_mid {N : Nat} {bs : List Bd} {flow : List Int} (hN : N ≤ 128) (hv : AllValid N bs) (hn : NoNeg (resid (arcsP bs flow))) :
 ∀ s, MidA (arcsP bs flow) (shAll N) s → ∀ v : Int, 0 ≤ v → v < N → getK s.k v = true → -1000000000 ≤ getI s.c v ∧ getI s.c v ≤ 1000000000 := by
 intro s hs v v0 v1 hk
 have := ((shAll_inv (A := arcsP bs flow) hN).1.mid hN (arcs_valid flow hv) hs).bounds hN (arcs_valid flow hv) hn v0 v1 hk
 omega
theorem push_way {N : Nat} {bs : List Bd} {flow : List Int} {p q : Nat} {s : Sh} {L : List Arc} (hN : N ≤ 128) (hv : AllValid N bs) (hn : NoNeg (resid (arcsP bs flow))) (hp : p < N) (hq : q < N)
 (hs : shortGo (arcsP bs flow) 1000 (shOne p) = some s) (hk : getK s.k (q : Int) = true) (hL : wayGo s.by_ p 1000 q = some L) :
 (∀ a ∈ L, a ∈ arcsP bs flow) ∧ (L.map Arc.bd).Nodup := by
 have hva := arcs_valid flow hv
 obtain ⟨HR0, HL0⟩ := shOne_inv (A := arcsP bs flow) hN hp
 have hfix := short_fix 1000 _ _ hs
 have hmid := short_mid (s0 := shOne p) 1000 _ _ MidA.start hs
 have HB := (ByInv.start (A := arcsP bs flow) hp hN).mid hN hva hn (by omega) HR0 hmid
 obtain ⟨n, hup⟩ := HB.up q (by omega) (by omega) hk
 have hdep := HB.depth hva (by omega) (by omega) hk hup
 obtain ⟨l, hl, hw⟩ := way_of hva HB hfix n q hup (by omega) (by omega) hk 1000 (by omega)
 rw [hL] at hl
 obtain rfl := Option.some.inj hl
 exact ⟨fun a ha => (way_tight HB hw a ha).1, way_bds hw⟩
theorem firstQ_some {N : Nat} {s : Sh} {need : List Int} {q : Nat} (hq : q < N) (h : wants s need q = true) (hb : ∀ r, r < q → wants s need r = false) : firstQ N s need = some q := by
 unfold firstQ
 rw [List.find?_range_eq_some]
 exact ⟨h, List.mem_range.2 hq, fun j hj => by simp [hb j hj]⟩
theorem firstQ_none {N : Nat} {s : Sh} {need : List Int} (hb : ∀ r, r < N → wants s need r = false) : firstQ N s need = none := by
 unfold firstQ
 refine List.find?_eq_none.2 fun r hr => ?_
 rw [hb r (List.mem_range.1 hr)]
 simp
end Go.Proofs.YthjmkmjojlfejaaGreat
namespace Go.Proofs.YthjmkmjojlfejaaGreat
open Go Go.RowKit Go.Shelf
attribute [local go_sem] Oper.semAt_some
theorem shortGo_pos {A : List Arc} {f : Nat} {s s' : Sh} (h : shortGo A f s = some s') : ∃ g, f = g + 1 ∧ ((passA A s).2 = true → shortGo A g (passA A s).1 = some s') ∧ ((passA A s).2 = false → (passA A s).1 = s') := by
 cases f with
 | zero => cases h
 | succ g =>
   refine ⟨g, rfl, fun hf => ?_, fun hf => ?_⟩
   ·unfold shortGo at h; rw [if_pos hf] at h; exact h
   ·unfold shortGo at h; rw [if_neg (by rw [hf]; simp)] at h; exact Option.some.inj h
theorem cons_len {T : List Value} {n : Nat} (h : T.length = n + 1) : ∃ u T', T = u :: T' ∧ T'.length = n := by
 cases T with
 | nil => cases h
 | cons u T' => exact ⟨u, T', rfl, by simpa using h⟩
theorem getK_at {l : List Bool} {i : Nat} (h : i < l.length) : (boolA l)[i]? = some (.bool (getK l (i : Int))) := by
 unfold getK
 simp [boolA, boolsV, List.getD_eq_getElem?_getD, h]
theorem getI_at {l : List Int} {i : Nat} (h : i < l.length) : (rowA l)[i]? = some (.int .i64 (getI l (i : Int))) := by
 rw [rowA_get h]; rfl
theorem relaxA_not {s : Sh × Bool} {a : Arc} (h : shorter s.1 a = false) : relaxA s a = s := by unfold relaxA; rw [if_neg (by rw [h]; simp)]
theorem relaxA_up {s : Sh × Bool} {a : Arc} (h : shorter s.1 a = true) : relaxA s a = (s.1.upd a, true) := by unfold relaxA; rw [if_pos h]
theorem fold_whole : ∀ (l : List Arc) (s : Sh × Bool), s.1.whole → (l.foldl relaxA s).1.whole
 | [], _, h => h
 | a :: l, s, h => fold_whole l _ (by unfold relaxA; split; exact Sh.upd_whole h a; exact h)
set_option maxRecDepth 100000 in
set_option maxHeartbeats 8000000 in
theorem shortened_any (w : World) (B bc bk bn N : Nat) (a : Option Addr) (cap : Nat) (bs : List Bd) (aF : Option Addr) (capF : Nat) (flow : List Int) (f : Nat) (s0 s9 : Sh) (hN : N ≤ 128)
 (hl : bs.length ≤ 4000) (hv : AllValid N bs) (hfl : flow.length = bs.length) (hB : BoundsAt w a bs) (hF : IntsAt w aF flow) (hBs : B ≤ w.heap.size) (hbc0 : B ≤ bc) (hbk0 : B ≤ bk) (hbc : bc < w.heap.size) (hbk : bk < w.heap.size) (hck : bc ≠ bk)
 (f1 : bn < B) (fa : ∀ x, a = some x → 0 < bs.length → x.block < B) (ff : ∀ x, aF = some x → 0 < bs.length → x.block < B)
 (hc1 : w.cell? ⟨bn, 1, none⟩ = some (.slice a bs.length cap)) (hc2 : w.cell? ⟨bn, 2, none⟩ = some (.slice aF bs.length capF))
 (hcost : w.heap[bc]? = some (.cells (rowA s0.c) 153 (0,0))) (hkn : w.heap[bk]? = some (.cells (boolA s0.k) 156 (0,0))) (hw0 : s0.whole) (hby : s0.by_ = List.replicate 128 arc0)
 (hmid : ∀ s, MidA (arcsP bs flow) s0 s → ∀ v : Int, 0 ≤ v → v < N → getK s.k v = true → -1000000000 ≤ getI s.c v ∧ getI s.c v ≤ 1000000000) (hgo : shortGo (arcsP bs flow) f s0 = some s9) :
 Calls Tryz.prog 142 #[.pointer (some ⟨bn, 0, none⟩), .pointer (some ⟨bc, 0, none⟩), .pointer (some ⟨bk, 0, none⟩)] w fun e w' => e = .returned (.agg (arcsA s9.by_)) ∧ w'.heap[bc]? = some (.cells (rowA s9.c) 153 (0,0)) ∧ w'.heap[bk]? = some (.cells (boolA s9.k) 156 (0,0)) ∧ Below B w w' ∧ s9.whole ∧ (∀ q : Nat, q < w.heap.size → q ≠ bc → q ≠ bk → w'.heap[q]? = w.heap[q]?) := by
 have H := hidE hB
 have HFl := hidE hF
 have HV := hidE hv
 have HLEN := hidE hfl
 have HFa := hidE fa
 have HFf := hidE ff
 have HC1 := hidE hc1
 have HC2 := hidE hc2
 have HMID := hidE hmid
 have HGO := hidE hgo
 have HCO := hidE hcost
 have HKN := hidE hkn
 have HBY := hidE hby
 have HW0 := hidE hw0
 clear hB hF hv hfl fa ff hc1 hc2 hmid hgo hcost hkn hby hw0
 refine (callsIn_wide (n := 8)).1 (callsIn_of_wp_marks Tryz.func142 rfl trivial (wpIn_wide.2 ?_) rfl)
 simp only [Tryz.ntmps142, List.size_toArray, List.length_cons, List.length_nil, Nat.reduceAdd, Nat.reduceSub, Array.replicate_succ, Array.replicate_zero, List.push_toArray, List.append_toArray, List.nil_append, List.cons_append]
 go_wp2_with fail
 obtain ⟨W1, hW1⟩ : ∃ W1, W1 = (((((w.alloc (.cells #[.pointer (some ⟨bc, 0, none⟩)] 161)).alloc (.cells #[.pointer (some ⟨bk, 0, none⟩)] 162)).alloc (.cells Tryz.zeroCells159 159)).alloc (.cells Tryz.zeroCells159 159)).alloc (.cells #[.bool true] 4)) := ⟨_, rfl⟩
 rw [← hW1]
 have z1 : W1.heap.size = w.heap.size + 5 := by rw [hW1]; simp
 have hbl : ∀ (k : Nat) (o : Obj), w.heap[k]? = some o → W1.heap[k]? = some o := by
  intro k o hk
  have := lt_of_block hk
  rw [hW1]
  simp only [heap_alloc_get, World.size_alloc]
  rw [if_neg (by omega), if_neg (by omega), if_neg (by omega), if_neg (by omega), if_neg (by omega)]
  exact hk
 have st0 : SSt w W1 B bc bk (w.heap.size + 1 + 1 + 1 + 1) s0 true := by
  refine ⟨hbl _ _ HCO.out, hbl _ _ HKN.out, ?_, ?_, ?_, ?_, ?_, by omega, ?_⟩
  ·rw [hW1]; simp only [heap_alloc_get, World.size_alloc]; rw [if_neg (by omega), if_neg (by omega), if_neg (by omega), if_neg (by omega), if_pos trivial]
  ·rw [hW1]; simp only [heap_alloc_get, World.size_alloc]; rw [if_neg (by omega), if_neg (by omega), if_neg (by omega), if_pos trivial]
  ·rw [hW1]; simp only [heap_alloc_get, World.size_alloc]; rw [if_neg (by omega), if_neg (by omega), if_pos trivial]
  ·rw [hW1]; simp only [heap_alloc_get, World.size_alloc]; rw [if_neg (by omega), if_pos trivial, HBY.out, arcs_zero]
  ·rw [hW1]; simp only [heap_alloc_get, World.size_alloc]; rw [if_pos trivial]
  ·rw [hW1]; exact ((((((Below.refl _ w).alloc hBs _).alloc (by simp; omega) _).alloc (by simp; omega) _).alloc (by simp; omega) _).alloc (by simp; omega) _)
 have OT0 := hidE (show ∀ q : Nat, q < w.heap.size → q ≠ bc → q ≠ bk → W1.heap[q]? = w.heap[q]? by
  intro q hq _ _
  rw [hW1]
  simp only [heap_alloc_get, World.size_alloc]
  rw [if_neg (by omega), if_neg (by omega), if_neg (by omega), if_neg (by omega), if_neg (by omega)])
 have ST0 := hidE st0
 clear st0 hbl hW1
 refine wp_loop_ghost_k (fun n a' W => ∃ (b8 : Nat) (T : List Value) (ds : List Deferred), T.length = 63 ∧ (∃ (s : Sh) (m : Bool), Hid (SSt w W B bc bk b8 s m) ∧ Hid (MidA (arcsP bs flow) s0 s) ∧ Hid ((m = true → shortGo (arcsP bs flow) n s = some s9) ∧ (m = false → s = s9)) ∧ Hid (Marks (w.heap.size + 4) ds W) ∧ w.heap.size + 4 ≤ W.heap.size ∧ Hid s.whole ∧ Hid (∀ q : Nat, q < w.heap.size → q ≠ bc → q ≠ bk → W.heap[q]? = w.heap[q]?)) ∧
  a' = { tmps := ([.pointer (some ⟨bn, 0, none⟩), .pointer (some ⟨bc, 0, none⟩), .pointer (some ⟨bk, 0, none⟩), undef, .pointer (some ⟨w.heap.size, 0, none⟩), .pointer (some ⟨w.heap.size + 1, 0, none⟩), .pointer (some ⟨w.heap.size + 1 + 1, 0, none⟩), .pointer (some ⟨w.heap.size + 1 + 1 + 1, 0, none⟩), .pointer (some ⟨b8, 0, none⟩)] ++ T).toArray, defers := ds }) f ?_ ?_
 ·refine ⟨w.heap.size + 1 + 1 + 1 + 1, [undef, undef, undef, undef, undef, undef, undef, undef, undef, undef, undef, undef, undef, undef, undef, undef, undef, undef, undef, undef, undef, undef, undef, undef, undef, undef, undef, undef, undef, undef, undef, undef, undef, undef, undef, undef, undef, undef, undef, undef, undef, undef, undef, undef, undef, undef, undef, undef, undef, undef, undef, undef, undef, undef, undef, undef, undef, undef, undef, undef, undef, undef, undef], [], rfl, ?_, rfl⟩
  refine ⟨s0, true, ST0, hidE MidA.start, ?_, ?_, ?_, HW0, OT0⟩
  ·exact hidE ⟨fun _ => HGO.out, fun h => by cases h⟩
  ·exact hidE (Marks.nil _ _)
  ·omega
 ·rintro n a' wr ⟨b8, T, ds, hT, ⟨s, m, hst, hmd, hpr, hmk, hsz, hwh, hot⟩, ha'⟩ J K hJ hK
  obtain ⟨u9, T9, e9, hT9⟩ := cons_len hT; subst e9; clear hT
  obtain ⟨u10, T10, e10, hT10⟩ := cons_len hT9; subst e10; clear hT9
  obtain ⟨u11, T11, e11, hT11⟩ := cons_len hT10; subst e11; clear hT10
  obtain ⟨u12, T12, e12, hT12⟩ := cons_len hT11; subst e12; clear hT11
  obtain ⟨u13, T13, e13, hT13⟩ := cons_len hT12; subst e13; clear hT12
  obtain ⟨u14, T14, e14, hT14⟩ := cons_len hT13; subst e14; clear hT13
  obtain ⟨u15, T15, e15, hT15⟩ := cons_len hT14; subst e15; clear hT14
  obtain ⟨u16, T16, e16, hT16⟩ := cons_len hT15; subst e16; clear hT15
  obtain ⟨u17, T17, e17, hT17⟩ := cons_len hT16; subst e17; clear hT16
  obtain ⟨u18, T18, e18, hT18⟩ := cons_len hT17; subst e18; clear hT17
  obtain ⟨u19, T19, e19, hT19⟩ := cons_len hT18; subst e19; clear hT18
  obtain ⟨u20, T20, e20, hT20⟩ := cons_len hT19; subst e20; clear hT19
  obtain ⟨u21, T21, e21, hT21⟩ := cons_len hT20; subst e21; clear hT20
  obtain ⟨u22, T22, e22, hT22⟩ := cons_len hT21; subst e22; clear hT21
  obtain ⟨u23, T23, e23, hT23⟩ := cons_len hT22; subst e23; clear hT22
  obtain ⟨u24, T24, e24, hT24⟩ := cons_len hT23; subst e24; clear hT23
  obtain ⟨u25, T25, e25, hT25⟩ := cons_len hT24; subst e25; clear hT24
  obtain ⟨u26, T26, e26, hT26⟩ := cons_len hT25; subst e26; clear hT25
  obtain ⟨u27, T27, e27, hT27⟩ := cons_len hT26; subst e27; clear hT26
  obtain ⟨u28, T28, e28, hT28⟩ := cons_len hT27; subst e28; clear hT27
  obtain ⟨u29, T29, e29, hT29⟩ := cons_len hT28; subst e29; clear hT28
  obtain ⟨u30, T30, e30, hT30⟩ := cons_len hT29; subst e30; clear hT29
  obtain ⟨u31, T31, e31, hT31⟩ := cons_len hT30; subst e31; clear hT30
  obtain ⟨u32, T32, e32, hT32⟩ := cons_len hT31; subst e32; clear hT31
  obtain ⟨u33, T33, e33, hT33⟩ := cons_len hT32; subst e33; clear hT32
  obtain ⟨u34, T34, e34, hT34⟩ := cons_len hT33; subst e34; clear hT33
  obtain ⟨u35, T35, e35, hT35⟩ := cons_len hT34; subst e35; clear hT34
  obtain ⟨u36, T36, e36, hT36⟩ := cons_len hT35; subst e36; clear hT35
  obtain ⟨u37, T37, e37, hT37⟩ := cons_len hT36; subst e37; clear hT36
  obtain ⟨u38, T38, e38, hT38⟩ := cons_len hT37; subst e38; clear hT37
  obtain ⟨u39, T39, e39, hT39⟩ := cons_len hT38; subst e39; clear hT38
  obtain ⟨u40, T40, e40, hT40⟩ := cons_len hT39; subst e40; clear hT39
  obtain ⟨u41, T41, e41, hT41⟩ := cons_len hT40; subst e41; clear hT40
  obtain ⟨u42, T42, e42, hT42⟩ := cons_len hT41; subst e42; clear hT41
  obtain ⟨u43, T43, e43, hT43⟩ := cons_len hT42; subst e43; clear hT42
  obtain ⟨u44, T44, e44, hT44⟩ := cons_len hT43; subst e44; clear hT43
  obtain ⟨u45, T45, e45, hT45⟩ := cons_len hT44; subst e45; clear hT44
  obtain ⟨u46, T46, e46, hT46⟩ := cons_len hT45; subst e46; clear hT45
  obtain ⟨u47, T47, e47, hT47⟩ := cons_len hT46; subst e47; clear hT46
  obtain ⟨u48, T48, e48, hT48⟩ := cons_len hT47; subst e48; clear hT47
  obtain ⟨u49, T49, e49, hT49⟩ := cons_len hT48; subst e49; clear hT48
  obtain ⟨u50, T50, e50, hT50⟩ := cons_len hT49; subst e50; clear hT49
  obtain ⟨u51, T51, e51, hT51⟩ := cons_len hT50; subst e51; clear hT50
  obtain ⟨u52, T52, e52, hT52⟩ := cons_len hT51; subst e52; clear hT51
  obtain ⟨u53, T53, e53, hT53⟩ := cons_len hT52; subst e53; clear hT52
  obtain ⟨u54, T54, e54, hT54⟩ := cons_len hT53; subst e54; clear hT53
  obtain ⟨u55, T55, e55, hT55⟩ := cons_len hT54; subst e55; clear hT54
  obtain ⟨u56, T56, e56, hT56⟩ := cons_len hT55; subst e56; clear hT55
  obtain ⟨u57, T57, e57, hT57⟩ := cons_len hT56; subst e57; clear hT56
  obtain ⟨u58, T58, e58, hT58⟩ := cons_len hT57; subst e58; clear hT57
  obtain ⟨u59, T59, e59, hT59⟩ := cons_len hT58; subst e59; clear hT58
  obtain ⟨u60, T60, e60, hT60⟩ := cons_len hT59; subst e60; clear hT59
  obtain ⟨u61, T61, e61, hT61⟩ := cons_len hT60; subst e61; clear hT60
  obtain ⟨u62, T62, e62, hT62⟩ := cons_len hT61; subst e62; clear hT61
  obtain ⟨u63, T63, e63, hT63⟩ := cons_len hT62; subst e63; clear hT62
  obtain ⟨u64, T64, e64, hT64⟩ := cons_len hT63; subst e64; clear hT63
  obtain ⟨u65, T65, e65, hT65⟩ := cons_len hT64; subst e65; clear hT64
  obtain ⟨u66, T66, e66, hT66⟩ := cons_len hT65; subst e66; clear hT65
  obtain ⟨u67, T67, e67, hT67⟩ := cons_len hT66; subst e67; clear hT66
  obtain ⟨u68, T68, e68, hT68⟩ := cons_len hT67; subst e68; clear hT67
  obtain ⟨u69, T69, e69, hT69⟩ := cons_len hT68; subst e69; clear hT68
  obtain ⟨u70, T70, e70, hT70⟩ := cons_len hT69; subst e70; clear hT69
  obtain ⟨u71, T71, e71, hT71⟩ := cons_len hT70; subst e71; clear hT70
  obtain rfl := List.length_eq_zero_iff.1 hT71
  simp only [List.cons_append, List.nil_append] at ha'
  subst ha'
  clear hT71
  have cm : wr.cell? ⟨b8, 0, none⟩ = some (.bool m) := cell_of_one hst.out.more
  have fm : wr.frozen? ⟨b8, 0, none⟩ = false := frozen_of_row _ _ _ _ _ hst.out.more
  cases m with
  | false =>
    have e9 : s = s9 := hpr.out.2 rfl
    subst e9
    have i159 : Hid ((Tryz.prog.info? 159).map (·.size) = some (arcsA s.by_).size) := hidE (by rw [arcsA_size, hwh.out.2.2]; kernel_rfl)
    go_wp2_with (first
     | (refine wpList_load_row rfl 159 _ rfl _ rfl 159 _ _ _ hst.out.by_ Tryz.underlying159 rfl i159.out ?_)
     | (refine wpList_store_row rfl 159 _ _ rfl _ (arcsA s.by_) rfl rfl 159 _ hst.out.res i159.out (by rw [arcsA_size, hwh.out.2.2, arcs_zero, arcsA_size, List.length_replicate]) ?_ ?_))
    ·exact fun i hi => by have h1 := arcsA_one s.by_; rw [Array.all_eq_true] at h1; exact h1 i hi
    have hm2 : Marks (w.heap.size + 4) ds (wr.setRow (w.heap.size + 1 + 1) (arcsA s.by_)) := hmk.out.keep (fun D hD hd => by rw [setRow_other _ _ _ _ (by omega)]; exact hd)
    refine leaves_marks ds _ hm2 (fun W' hk' => ?_)
    have hr : W'.heap[w.heap.size + 1 + 1]? = some (.cells (arcsA s.by_) 159 (0,0)) := hk'.cells _ _ _ _ (setRow_heap _ _ _ _ _ _ hst.out.res)
    refine ⟨_, results_cell_row Tryz.results142 _ _ _ _ _ _ _ rfl hr Tryz.underlying159 rfl i159.out, rfl, ?_, ?_, ?_, hwh.out, ?_⟩
    ·exact hk'.cells _ _ _ _ ((setRow_other _ _ _ _ (by omega)).trans hst.out.cost)
    ·exact hk'.cells _ _ _ _ ((setRow_other _ _ _ _ (by omega)).trans hst.out.known)
    ·exact (below_setRow hst.out.bl (by omega) _).trans (hk'.below.mono (by omega))
    ·intro q hq h1 h2
     rw [hk'.below.block q (by omega), setRow_other _ _ _ _ (by omega)]
     exact hot.out q hq h1 h2
  | true =>
    obtain ⟨n', rfl, hp1, hp2⟩ := shortGo_pos (hpr.out.1 rfl)
    go_wp2_with fail
    have st2 := hst.out.setMore hbc hbk hBs false
    obtain ⟨W2, hW2⟩ : ∃ W2, W2 = wr.setCell ⟨b8, 0, none⟩ (.bool false) := ⟨_, rfl⟩
    rw [← hW2] at st2 ⊢
    have z2 : W2.heap.size = wr.heap.size := by rw [hW2]; simp
    have h8 := hst.out.b8
    have ot2 : ∀ q : Nat, q < w.heap.size → q ≠ bc → q ≠ bk → W2.heap[q]? = w.heap[q]? := fun q hq h1 h2 => by
     rw [hW2, heap_setCell_other _ _ _ _ (by show q ≠ b8; omega)]; exact hot.out q hq h1 h2
    have mk2 : Marks (w.heap.size + 4) ds W2 := hmk.out.keep (fun D hD hd => by
     rw [hW2, heap_setCell_other _ _ _ _ (by show D ≠ b8; intro e; rw [e, hst.out.more] at hd; cases hd)]; exact hd)
    have hB2 : BoundsAt W2 a bs := boundsAt_of H.out (fun x hx h0 => ot2 _ (by have := HFa.out x hx h0; omega) (by have := HFa.out x hx h0; omega) (by have := HFa.out x hx h0; omega)) (by omega)
    have hF2 : IntsAt W2 aF flow := intsAt_of HFl.out (fun x hx h0 => by rw [HLEN.out] at h0; exact ot2 _ (by have := HFf.out x hx h0; omega) (by have := HFf.out x hx h0; omega) (by have := HFf.out x hx h0; omega)) (by omega)
    have c1 : W2.cell? ⟨bn, 1, none⟩ = some (.slice a bs.length cap) := (World.cell?_of_block (w := w) (a := ⟨bn, 1, none⟩) (ot2 bn (by omega) (by omega) (by omega))).trans HC1.out
    have c2 : W2.cell? ⟨bn, 2, none⟩ = some (.slice aF bs.length capF) := (World.cell?_of_block (w := w) (a := ⟨bn, 2, none⟩) (ot2 bn (by omega) (by omega) (by omega))).trans HC2.out
    have HOT2 := hidE ot2
    have HMK2 := hidE mk2
    have HP1 := hidE hp1
    have HP2 := hidE hp2
    clear ot2 mk2 hp1 hp2 cm fm hpr hW2 hst hot hmk
    obtain ⟨IX, hIX⟩ : ∃ IX : List (ArcIn (arcsP bs flow)) → World → Prop, (fun pre W => SSt w W B bc bk b8 ((pre.map (·.1)).foldl relaxA (s, false)).1 ((pre.map (·.1)).foldl relaxA (s, false)).2 ∧ (∀ q : Nat, q < W2.heap.size → q ≠ bc → q ≠ bk → q ≠ w.heap.size + 1 + 1 + 1 → q ≠ b8 → W.heap[q]? = W2.heap[q]?) ∧ W2.heap.size ≤ W.heap.size) = IX := ⟨_, rfl⟩
    refine wp_rangeRecv (gf := 192) (rv := .pointer (some ⟨bn, 0, none⟩)) rfl (enters_of Tryz.func192 (by kernel_rfl) rfl) (encA (arcsP bs flow)) (fun x => rfl) (fun ys => ys.map (·.1) = arcsP bs flow) (arcsP bs flow).length (KeepsC W2.heap.size (· < B)) (fun h k => h.trans k) ?kb ?seq
     IX ?own ?start (fun x a' W => ∃ Bx, W2.heap.size ≤ Bx ∧ W.heap[Bx]? = some (.cells x.1.cells.toArray 158 (0,0)) ∧ a' = { tmps := ([.pointer (some ⟨bn, 0, none⟩), .pointer (some ⟨bc, 0, none⟩), .pointer (some ⟨bk, 0, none⟩), undef, .pointer (some ⟨w.heap.size, 0, none⟩), .pointer (some ⟨w.heap.size + 1, 0, none⟩), .pointer (some ⟨w.heap.size + 1 + 1, 0, none⟩), .pointer (some ⟨w.heap.size + 1 + 1 + 1, 0, none⟩), .pointer (some ⟨b8, 0, none⟩), u9, .bool true, .pointer (some ⟨bn, 0, none⟩), .func (.func 192) #[.pointer (some ⟨bn, 0, none⟩)] #[], u13, u14, u15, u16, u17, u18, u19, u20, u21, u22, u23, u24, u25, u26, u27, u28, u29, u30, u31, u32, u33, u34, u35, u36, u37, u38, u39, u40, u41, u42, u43, u44, u45, u46, u47, u48, u49, u50, u51, u52, u53, u54, u55, u56, u57, u58, u59, u60, u61, u62, u63, u64, u65, u66, u67, u68, u69, u70, u71].toArray.setIfInBounds 13 x.1.val).setIfInBounds 9 (.pointer (some ⟨Bx, 0, none⟩)), defers := [] }) ?ax ?assign ?body ?done
    case kb =>
     intro W l o o' hle ho hi _
     exact ⟨⟨by simp, fun b hb => World.putObj_heap_other (by omega)⟩, fun k c t f hk hc => by
      rw [World.putObj_heap_other (fun e => by rw [e, ho] at hc; cases hc; simp [Obj.isCells] at hi)]; exact hc⟩
    case seq =>
     intro l J W hb hJ hY h0
     exact arcs_in l bn N (· < B) W2 W a cap bs aF capF flow hN hl HV.out HLEN.out hB2 hF2 (fun b hb => by omega) f1 HFa.out HFf.out c1 c2 ⟨hb.size, fun b hb' => hb.block b (by omega)⟩ J hJ hY h0
    case own =>
     rw [← hIX]
     rintro pre X Y row ⟨st, kb, hs⟩ hg hr
     have hkc : ∀ (k : Nat) (c : Array Value) (t : TypeId), X.heap[k]? = some (Obj.cells c t (0,0)) → Y.heap[k]? = some (Obj.cells c t (0,0)) := by
      intro k c t hk
      rw [hg.block k (lt_of_block hk) ?_]
      ·exact hk
      ·intro e
       obtain ⟨_, o, ho, hi⟩ := hr k e.symm
       rw [hk] at ho
       cases ho
       simp [Obj.isCells] at hi
     refine ⟨st.keep hkc ((Below.refl B X).grown hg (by omega) (fun k e => by have := (hr k e).1; omega)), fun q hq h1 h2 h3 h4 => ?_, Nat.le_trans hs hg.size⟩
     rw [hg.block q (by omega) (fun e => by have := (hr q e.symm).1; omega)]
     exact kb q hq h1 h2 h3 h4
    case start =>
     rw [← hIX]
     exact ⟨st2, fun _ _ _ _ _ _ => rfl, Nat.le_refl _⟩
    case ax =>
     rintro x a' _ X Y row ⟨Bx, hBx, hc, e⟩ hg hr
     refine ⟨Bx, hBx, ?_, e⟩
     rw [hg.block Bx (lt_of_block hc) (fun e2 => ?_)]
     ·exact hc
     ·obtain ⟨_, o, ho, hi⟩ := hr Bx e2.symm
      rw [hc] at ho
      cases ho
      simp [Obj.isCells] at hi
    case assign =>
     intro l pre x W K hI hK
     rw [← hIX] at hI
     obtain ⟨st, kb, hs⟩ := hI
     obtain ⟨⟨abd, aback, asrc, adst, acost⟩, hxA⟩ := x
     have bb : Below W.heap.size W (W.alloc (.cells #[.int .i64 (abd : Int), .bool aback, .int .i64 asrc, .int .i64 adst, .int .i64 acost] 158)) := (Below.refl _ _).alloc (Nat.le_refl _) _
     have hK2 := hK { tmps := ([.pointer (some ⟨bn, 0, none⟩), .pointer (some ⟨bc, 0, none⟩), .pointer (some ⟨bk, 0, none⟩), undef, .pointer (some ⟨w.heap.size, 0, none⟩), .pointer (some ⟨w.heap.size + 1, 0, none⟩), .pointer (some ⟨w.heap.size + 1 + 1, 0, none⟩), .pointer (some ⟨w.heap.size + 1 + 1 + 1, 0, none⟩), .pointer (some ⟨b8, 0, none⟩), u9, .bool true, .pointer (some ⟨bn, 0, none⟩), .func (.func 192) #[.pointer (some ⟨bn, 0, none⟩)] #[], u13, u14, u15, u16, u17, u18, u19, u20, u21, u22, u23, u24, u25, u26, u27, u28, u29, u30, u31, u32, u33, u34, u35, u36, u37, u38, u39, u40, u41, u42, u43, u44, u45, u46, u47, u48, u49, u50, u51, u52, u53, u54, u55, u56, u57, u58, u59, u60, u61, u62, u63, u64, u65, u66, u67, u68, u69, u70, u71].toArray.setIfInBounds 13 (.agg #[.int .i64 (abd : Int), .bool aback, .int .i64 asrc, .int .i64 adst, .int .i64 acost])).setIfInBounds 9 (.pointer (some ⟨W.heap.size, 0, none⟩)), defers := [] } _ ((KeepsOthers.alloc _ _).from _)
      ⟨⟨bb.size, fun b hb => bb.block b (by omega)⟩, fun k c t f hk hc => blk_below bb (lt_of_block hc) hc⟩
      (by rw [← hIX]; exact ⟨st.keep (fun k c t hk => blk_below bb (lt_of_block hk) hk) (bb.mono (by omega)), fun q hq h1 h2 h3 h4 => (bb.block q (by omega)).trans (kb q hq h1 h2 h3 h4), Nat.le_trans hs bb.size⟩)
      ⟨W.heap.size, hs, heap_alloc_new _ _, rfl⟩
     clear hK st kb bb
     simp only [encA, Arc.val, s_a, s_b, s_c, List.zip_toArray, List.zip_cons_cons, List.zip_nil_right, List.foldl_toArray, List.foldl_cons, List.foldl_nil] at hK2 ⊢
     gi_wp2
     exact hK2
    case done =>
     rintro D xs W hD hxs hI hKD
     rw [← hIX] at hI
     obtain ⟨st, kb, hs⟩ := hI
     rw [hxs] at st
     rw [show (arcsP bs flow).foldl relaxA (s, false) = passA (arcsP bs flow) s from rfl] at st
     have cm : W.cell? ⟨b8, 0, none⟩ = some (.bool (passA (arcsP bs flow) s).2) := cell_of_one st.more
     have hPmid := hidE (pass_mid hmd.out)
     have hPw := hidE (fold_whole (arcsP bs flow) (s, false) hwh.out)
     obtain ⟨P, hP⟩ : ∃ P, passA (arcsP bs flow) s = P := ⟨_, rfl⟩
     have hPw2 : Hid P.1.whole := hidE (by rw [← hP]; exact hPw.out)
     rw [hP] at st cm hPmid HP1 HP2
     obtain ⟨t, mm⟩ := P
     simp only at st cm hPmid HP1 HP2 hPw2
     have HST := hidE st
     have HKB := hidE kb
     have HKD := hidE hKD
     clear st kb hKD hPw hP
     go_wp2_with fail
     refine Handed.intro n' (Nat.lt_succ_self _) (hJ _ _ _ ?_)
     refine ⟨W.heap.size, [_, _, _, _, _, _, _, _, _, _, _, _, _, _, _, _, _, _, _, _, _, _, _, _, _, _, _, _, _, _, _, _, _, _, _, _, _, _, _, _, _, _, _, _, _, _, _, _, _, _, _, _, _, _, _, _, _, _, _, _, _, _, _], _, rfl, ⟨t, mm, ?_, hPmid, ?_, ?_, ?_, hPw2, ?_⟩, rfl⟩
     ·have bb : Below W.heap.size W (W.alloc (.cells #[.bool mm] 4)) := (Below.refl _ _).alloc (Nat.le_refl _) _
      have s3 := HST.out.keep (fun k c t hk => blk_below bb (lt_of_block hk) hk) (bb.mono (by omega))
      exact hidE ⟨s3.cost, s3.known, s3.x1, s3.x2, s3.res, s3.by_, heap_alloc_new _ _, by omega, s3.bl⟩
     ·exact hidE ⟨HP1.out, HP2.out⟩
     ·refine hidE (Marks.cons HMK2.out (fun D' hD' hd => ?_) (by omega) (by omega) ?_)
      ·have hlt := lt_of_block hd
       rw [Below.heap_alloc _ _ _ (by omega), HKB.out D' hlt (by omega) (by omega) (by omega) (by intro e; rw [e, st2.more] at hd; cases hd)]
       exact hd
      ·rw [Below.heap_alloc _ _ _ (lt_of_block HKD.out)]; exact HKD.out
     ·simp only [World.size_alloc]; omega
     ·refine hidE (fun q hq h1 h2 => ?_)
      rw [Below.heap_alloc _ _ _ (by omega), HKB.out q (by omega) h1 h2 (by omega) (by omega)]
      exact HOT2.out q hq h1 h2
    case body =>
     rintro l pre x a' W hI ⟨Bx, hBx, hxb, rfl⟩ hlen
     have hb8 : b8 < W2.heap.size := lt_of_block st2.more
     have hszW : w.heap.size + 4 ≤ W2.heap.size := by omega
     clear z2
     rw [← hIX] at hI
     obtain ⟨st, kb, hsW⟩ := hI
     obtain ⟨⟨abd, aback, asrc, adst, acost⟩, hxA⟩ := x
     obtain ⟨v1, v2, v3, v4, v5, v6⟩ := arcs_valid flow HV.out _ (mem_resid hxA)
     simp only [Arc.bnd] at v1 v2 v3 v4 v5 v6
     obtain ⟨si, rfl⟩ := Int.eq_ofNat_of_zero_le v1
     obtain ⟨di, rfl⟩ := Int.eq_ofNat_of_zero_le v3
     obtain ⟨P, hP⟩ : ∃ P, (pre.map (·.1)).foldl relaxA (s, false) = P := ⟨_, rfl⟩
     have hfold : ((pre ++ [(⟨⟨abd, aback, (si : Int), (di : Int), acost⟩, hxA⟩ : ArcIn (arcsP bs flow))]).map (·.1)).foldl relaxA (s, false) = relaxA P ⟨abd, aback, (si : Int), (di : Int), acost⟩ := by
      rw [List.map_append, List.foldl_append, hP]; rfl
     have hPmid : MidA (arcsP bs flow) s0 P.1 := by
      rw [← hP]; exact fold_mid _ _ (fun y hy => by obtain ⟨z, _, rfl⟩ := List.mem_map.1 hy; exact z.2) hmd.out
     have hPw : P.1.whole := by rw [← hP]; exact fold_whole _ _ hwh.out
     rw [hP] at st
     obtain ⟨t, mm⟩ := P
     simp only at st hPmid hPw
     obtain ⟨t1, t2, t3⟩ := hPw
     have p0 : W.cell? ⟨w.heap.size, 0, none⟩ = some (.pointer (some ⟨bc, 0, none⟩)) := cell_of_one st.x1
     have p1 : W.cell? ⟨w.heap.size + 1, 0, none⟩ = some (.pointer (some ⟨bk, 0, none⟩)) := cell_of_one st.x2
     have q0 : W.cell? ⟨Bx, 0, none⟩ = some (.int .i64 (abd : Int)) := c_e hxb rfl
     have q1 : W.cell? ⟨Bx, 1, none⟩ = some (.bool aback) := c_e hxb rfl
     have q2 : W.cell? ⟨Bx, 2, none⟩ = some (.int .i64 (si : Int)) := c_e hxb rfl
     have q3 : W.cell? ⟨Bx, 3, none⟩ = some (.int .i64 (di : Int)) := c_e hxb rfl
     have q4 : W.cell? ⟨Bx, 4, none⟩ = some (.int .i64 acost) := c_e hxb rfl
     have kS : W.cell? ⟨bk, si, none⟩ = some (.bool (getK t.k (si : Int))) := by rw [cell_of_row _ _ _ _ _ _ st.known, getK_at (by omega)]
     have kD : W.cell? ⟨bk, di, none⟩ = some (.bool (getK t.k (di : Int))) := by rw [cell_of_row _ _ _ _ _ _ st.known, getK_at (by omega)]
     have cS : W.cell? ⟨bc, si, none⟩ = some (.int .i64 (getI t.c (si : Int))) := by rw [cell_of_row _ _ _ _ _ _ st.cost, getI_at (by omega)]
     have cD : W.cell? ⟨bc, di, none⟩ = some (.int .i64 (getI t.c (di : Int))) := by rw [cell_of_row _ _ _ _ _ _ st.cost, getI_at (by omega)]
     have hbS := fun h => HMID.out t hPmid (si : Int) (by omega) (by omega) h
     have hbD := fun h => HMID.out t hPmid (di : Int) (by omega) (by omega) h
     have s1 : (si : Int) < 128 := by omega
     have s2 : si < 128 := by omega
     have d1 : (di : Int) < 128 := by omega
     have d2 : di < 128 := by omega
     obtain ⟨cs, hcs⟩ : ∃ z, getI t.c (si : Int) = z := ⟨_, rfl⟩
     obtain ⟨cd, hcd⟩ : ∃ z, getI t.c (di : Int) = z := ⟨_, rfl⟩
     rw [hcs] at cS hbS
     rw [hcd] at cD hbD
     have HST := hidE st
     have HKB := hidE kb
     have HXB := hidE hxb
     have HFO := hidE hfold
     have HTW := hidE (show t.whole from ⟨t1, t2, t3⟩)
     have HCS := hidE hcs
     have HCD := hidE hcd
     have HMI := hidE hPmid
     clear st kb hxb hfold hcs hcd hPmid t1 t2 t3 hP
     have hnot : ∀ nq : Nat, relaxA (t, mm) ⟨abd, aback, (si : Int), (di : Int), acost⟩ = (t, mm) → KeepsFrom W2.heap.size W (W.drewN nq) ∧ KeepsC W2.heap.size (· < B) W (W.drewN nq) ∧ IX (pre ++ [(⟨⟨abd, aback, (si : Int), (di : Int), acost⟩, hxA⟩ : ArcIn (arcsP bs flow))]) (W.drewN nq) := by
      intro nq hr
      refine ⟨⟨Nat.le_refl _, fun _ _ _ h _ => h⟩, ⟨⟨Nat.le_refl _, fun _ _ => rfl⟩, fun _ _ _ _ _ h => h⟩, ?_⟩
      rw [← hIX]
      refine ⟨?_, HKB.out, hsW⟩
      rw [HFO.out, hr]
      exact HST.out.keep (fun _ _ _ h => h) (below_drewN' _ _)
     have HNOT := hidE hnot
     clear hnot
     simp only [Arc.val, s_a, s_b, s_c]
     gi_wp2_with fail
     have hmx : Tryz.prog.follows Departure.mixedOrders = true := by kernel_rfl
     cases hks : getK t.k (si : Int) with
     | false =>
       rw [hks] at kS
       have HS := hidE hks
       clear hks
       refine wpIn_region_quiet_round hmx (by kernel_rfl) (by kernel_rfl) ?_
       repeat (go_big_quiet_step (fail))
       refine wpQuiet_nil ?_
       intro _ hw'
       obtain ⟨nq, hw''⟩ := hw'
       subst hw''
       gi_wp2_with fail
       obtain ⟨r1, r2, r3⟩ := HNOT.out nq (relaxA_not (by unfold shorter; simp only [HS.out, Bool.false_and]))
       exact ⟨rfl, r1, r2, r3⟩
     | true =>
       rw [hks] at kS hbS
       have HS := hidE hks
       obtain ⟨b1, b2⟩ := hbS rfl
       have wadd : IntKind.i64.wrap (cs + acost) = cs + acost := IntWalk.i64_in _ (by omega)
       clear hks
       cases hkd : getK t.k (di : Int) with
       | false =>
         rw [hkd] at kD
         have HD := hidE hkd
         have HUP := hidE (relaxA_up (s := (t, mm)) (a := ⟨abd, aback, (si : Int), (di : Int), acost⟩) (by unfold shorter; simp only [HS.out, HD.out, Bool.false_and, Bool.not_false, Bool.and_self]))
         clear hkd
         refine wpIn_region_quiet_round hmx (by kernel_rfl) (by kernel_rfl) ?_
         repeat (go_big_quiet_step (fail))
         refine wpQuiet_nil ?_
         intro _ hw'
         obtain ⟨nq, hw''⟩ := hw'
         subst hw''
         gi_wp2_with fail
         obtain ⟨X, hX⟩ : ∃ X, X = (W.drewN nq).drew := ⟨_, rfl⟩
         have ec : ∀ q, X.cell? q = W.cell? q := fun q => by rw [hX]; rfl
         have hS2 : ArcS2 w.heap.size bc bk Bx abd aback si di acost X := ⟨(ec _).trans p0, (ec _).trans p1, (ec _).trans q0, (ec _).trans q1, (ec _).trans q2, (ec _).trans q3, (ec _).trans q4⟩
         have hS : X.cell? ⟨bc, si, none⟩ = some (.int .i64 cs) := (ec _).trans cS
         have sx : SSt w X B bc bk b8 t mm := HST.out.keep (fun _ _ _ h => by rw [hX]; exact h) (by rw [hX]; exact (below_drewN' _ _).trans ((Below.refl _ _).drew))
         have a0 : X.cell? ⟨bc, di, none⟩ = some (.int .i64 cd) := (ec _).trans cD
         have g0 : X.frozen? ⟨bc, di, none⟩ = false := frozen_of_row _ _ _ _ _ sx.cost
         have HSX := hidE sx
         have HX := hidE hX
         have kbx : ∀ q : Nat, X.heap[q]? = W.heap[q]? := fun q => by rw [hX]; rfl
         have HKX := hidE kbx
         clear sx ec kbx p0 p1 q0 q1 q2 q3 q4 kS kD cS cD hbS hbD
         refine wpIn_region_K_in (S2 := ArcS2 w.heap.size bc bk Bx abd aback si di acost) (S := fun V => V.cell? ⟨bc, si, none⟩ = some (.int .i64 cs)) (T := fun t => t == 20 || t == 23 || t == 25) hmx (by kernel_rfl) ?_
         rw [← hX]
         clear hX
         refine wpAnyK_keep (i := 0) (d := 47) (v := .pointer (some ⟨bc, 0, none⟩)) rfl rfl rfl (by kernel_rfl) (by kernel_rfl) (by kernel_rfl) (fun _ _ _ h => onlyN_panic h) (.inl ⟨rfl, fun V hV => ?_⟩) ⟨hS2, .inr hS⟩ ?_
         ·obtain ⟨p0, p1, q0, q1, q2, q3, q4⟩ := hV
          simp [go_sem, execOp, p0]
         try simp only [s_a, s_b, s_c]
         refine t_k 1 48 (.pointer (some ⟨Bx, 3, none⟩)) rfl (by kernel_rfl) rfl (fun _ _ _ h => onlyN_panic h) (fun V hV => ?_) ⟨hS2, .inr hS⟩ ?_
         ·simp [go_sem, execOp]
         try simp only [s_a, s_b, s_c]
         refine wpAnyK_keep (i := 2) (d := 49) (v := .int .i64 (di : Int)) rfl rfl rfl (by kernel_rfl) (by kernel_rfl) (by kernel_rfl) (fun _ _ _ h => onlyN_panic h) (.inl ⟨rfl, fun V hV => ?_⟩) ⟨hS2, .inr hS⟩ ?_
         ·obtain ⟨p0, p1, q0, q1, q2, q3, q4⟩ := hV
          simp [go_sem, execOp, q3]
         try simp only [s_a, s_b, s_c]
         refine wpAnyK_keep (i := 3) (d := 50) (v := .pointer (some ⟨bk, 0, none⟩)) rfl rfl rfl (by kernel_rfl) (by kernel_rfl) (by kernel_rfl) (fun _ _ _ h => onlyN_panic h) (.inl ⟨rfl, fun V hV => ?_⟩) ⟨hS2, .inr hS⟩ ?_
         ·obtain ⟨p0, p1, q0, q1, q2, q3, q4⟩ := hV
          simp [go_sem, execOp, p1]
         try simp only [s_a, s_b, s_c]
         refine t_k 4 51 (.pointer (some ⟨Bx, 3, none⟩)) rfl (by kernel_rfl) rfl (fun _ _ _ h => onlyN_panic h) (fun V hV => ?_) ⟨hS2, .inr hS⟩ ?_
         ·simp [go_sem, execOp]
         try simp only [s_a, s_b, s_c]
         refine wpAnyK_keep (i := 5) (d := 52) (v := .int .i64 (di : Int)) rfl rfl rfl (by kernel_rfl) (by kernel_rfl) (by kernel_rfl) (fun _ _ _ h => onlyN_panic h) (.inl ⟨rfl, fun V hV => ?_⟩) ⟨hS2, .inr hS⟩ ?_
         ·obtain ⟨p0, p1, q0, q1, q2, q3, q4⟩ := hV
          simp [go_sem, execOp, q3]
         try simp only [s_a, s_b, s_c]
         refine t_k 6 53 (.pointer (some ⟨Bx, 3, none⟩)) rfl (by kernel_rfl) rfl (fun _ _ _ h => onlyN_panic h) (fun V hV => ?_) ⟨hS2, .inr hS⟩ ?_
         ·simp [go_sem, execOp]
         try simp only [s_a, s_b, s_c]
         refine wpAnyK_keep (i := 7) (d := 54) (v := .int .i64 (di : Int)) rfl rfl rfl (by kernel_rfl) (by kernel_rfl) (by kernel_rfl) (fun _ _ _ h => onlyN_panic h) (.inl ⟨rfl, fun V hV => ?_⟩) ⟨hS2, .inr hS⟩ ?_
         ·obtain ⟨p0, p1, q0, q1, q2, q3, q4⟩ := hV
          simp [go_sem, execOp, q3]
         try simp only [s_a, s_b, s_c]
         refine wpAnyK_keep (i := 8) (d := 55) (v := .pointer (some ⟨bc, 0, none⟩)) rfl rfl rfl (by kernel_rfl) (by kernel_rfl) (by kernel_rfl) (fun _ _ _ h => onlyN_panic h) (.inl ⟨rfl, fun V hV => ?_⟩) ⟨hS2, .inr hS⟩ ?_
         ·obtain ⟨p0, p1, q0, q1, q2, q3, q4⟩ := hV
          simp [go_sem, execOp, p0]
         try simp only [s_a, s_b, s_c]
         refine t_k 9 56 (.pointer (some ⟨Bx, 2, none⟩)) rfl (by kernel_rfl) rfl (fun _ _ _ h => onlyN_panic h) (fun V hV => ?_) ⟨hS2, .inr hS⟩ ?_
         ·simp [go_sem, execOp]
         try simp only [s_a, s_b, s_c]
         refine wpAnyK_keep (i := 10) (d := 57) (v := .int .i64 (si : Int)) rfl rfl rfl (by kernel_rfl) (by kernel_rfl) (by kernel_rfl) (fun _ _ _ h => onlyN_panic h) (.inl ⟨rfl, fun V hV => ?_⟩) ⟨hS2, .inr hS⟩ ?_
         ·obtain ⟨p0, p1, q0, q1, q2, q3, q4⟩ := hV
          simp [go_sem, execOp, q2]
         try simp only [s_a, s_b, s_c]
         refine t_k 11 58 (.pointer (some ⟨bc, 0, none⟩)) rfl (by kernel_rfl) rfl (fun _ _ _ h => onlyN_panic h) (fun V hV => ?_) ⟨hS2, .inr hS⟩ ?_
         ·simp [go_sem, execOp]
         try simp only [s_a, s_b, s_c]
         refine t_k 12 59 (.pointer (some ⟨bc, si, none⟩)) rfl (by kernel_rfl) rfl (fun _ _ _ h => onlyN_panic h) (fun V hV => ?_) ⟨hS2, .inr hS⟩ ?_
         ·simp [go_sem, execOp, s1]
         try simp only [s_a, s_b, s_c]
         refine wpAnyK_load (i := 13) (d := 60) (v := .int .i64 cs) rfl rfl rfl (by kernel_rfl) (by kernel_rfl) (by kernel_rfl) (by kernel_rfl) (by kernel_rfl) (fun _ _ _ h => onlyN_panic h) (.inl ⟨rfl, fun V hV => ?_⟩) hS hS2 ?_
         ·simp [go_sem, execOp, hV]
         try simp only [s_a, s_b, s_c]
         refine t_k 14 61 (.pointer (some ⟨Bx, 4, none⟩)) rfl (by kernel_rfl) rfl (fun _ _ _ h => onlyN_panic h) (fun V hV => ?_) ⟨hS2, .inr hS⟩ ?_
         ·simp [go_sem, execOp]
         try simp only [s_a, s_b, s_c]
         refine wpAnyK_keep (i := 15) (d := 62) (v := .int .i64 acost) rfl rfl rfl (by kernel_rfl) (by kernel_rfl) (by kernel_rfl) (fun _ _ _ h => onlyN_panic h) (.inl ⟨rfl, fun V hV => ?_⟩) ⟨hS2, .inr hS⟩ ?_
         ·obtain ⟨p0, p1, q0, q1, q2, q3, q4⟩ := hV
          simp [go_sem, execOp, q4]
         try simp only [s_a, s_b, s_c]
         refine t_k 16 63 (.int .i64 (cs + acost)) rfl (by kernel_rfl) rfl (fun _ _ _ h => onlyN_panic h) (fun V hV => ?_) ⟨hS2, .inr hS⟩ ?_
         ·simp [go_sem, execOp, wadd]
         try simp only [s_a, s_b, s_c]
         refine wpAnyK_keep (i := 17) (d := 64) (v := .agg #[.int .i64 (abd : Int), .bool aback, .int .i64 (si : Int), .int .i64 (di : Int), .int .i64 acost]) rfl rfl rfl (by kernel_rfl) (by kernel_rfl) (by kernel_rfl) (fun _ _ _ h => onlyN_panic h) (.inl ⟨rfl, fun V hV => ?_⟩) ⟨hS2, .inr hS⟩ ?_
         ·obtain ⟨p0, p1, q0, q1, q2, q3, q4⟩ := hV
          simp [go_sem, execOp, q0, q1, q2, q3, q4]
         try simp only [s_a, s_b, s_c]
         refine t_k 18 65 (.pointer (some ⟨bc, 0, none⟩)) rfl (by kernel_rfl) rfl (fun _ _ _ h => onlyN_panic h) (fun V hV => ?_) ⟨hS2, .inr hS⟩ ?_
         ·simp [go_sem, execOp]
         try simp only [s_a, s_b, s_c]
         refine t_k 19 66 (.pointer (some ⟨bc, di, none⟩)) rfl (by kernel_rfl) rfl (fun _ _ _ h => onlyN_panic h) (fun V hV => ?_) ⟨hS2, .inr hS⟩ ?_
         ·simp [go_sem, execOp, d1]
         try simp only [s_a, s_b, s_c]
         refine t_k 21 67 (.pointer (some ⟨bk, 0, none⟩)) rfl (by kernel_rfl) rfl (fun _ _ _ h => onlyN_panic h) (fun V hV => ?_) ⟨hS2, .inr hS⟩ ?_
         ·simp [go_sem, execOp]
         try simp only [s_a, s_b, s_c]
         have hS2a := hS2.set bc di (.int .i64 (cs + acost)) (by omega) (by omega) (by omega)
         refine wpAnyK_step 20 rfl (by kernel_rfl) (fun K hK => ?_)
         go_simp
         refine hK.out _ _ ⟨hS2a, .inl ⟨20, rfl, by kernel_rfl⟩⟩ ?_
         clear hK K
         try simp only [Act.put, s_a, s_b, s_c]
         obtain ⟨X1, hX1⟩ : ∃ X1, X1 = X.setCell ⟨bc, di, none⟩ (.int .i64 (cs + acost)) := ⟨_, rfl⟩
         rw [← hX1] at hS2a ⊢
         have k1 : X1.heap[bk]? = some (.cells (boolA t.k) 156 (0,0)) := by rw [hX1, heap_setCell_other _ _ _ _ (by show bk ≠ bc; omega)]; exact HSX.out.known
         have a1 : X1.cell? ⟨bk, di, none⟩ = some (.bool (getK t.k (di : Int))) := by rw [cell_of_row _ _ _ _ _ _ k1, getK_at (by have := HTW.out.2.1; omega)]
         have g1 : X1.frozen? ⟨bk, di, none⟩ = false := frozen_of_row _ _ _ _ _ k1
         have b1 : X1.heap[w.heap.size + 1 + 1 + 1]? = some (.cells (arcsA t.by_) 159 (0,0)) := by rw [hX1, heap_setCell_other _ _ _ _ (by show w.heap.size + 1 + 1 + 1 ≠ bc; omega)]; exact HSX.out.by_
         have HX1 := hidE hX1
         have HB1 := hidE b1
         clear hX1 k1 b1
         refine t_k 22 68 (.pointer (some ⟨bk, di, none⟩)) rfl (by kernel_rfl) rfl (fun _ _ _ h => onlyN_panic h) (fun V hV => ?_) ⟨hS2a, .inl ⟨20, rfl, by kernel_rfl⟩⟩ ?_
         ·simp [go_sem, execOp, d1]
         try simp only [s_a, s_b, s_c]
         have hS2b := hS2a.set bk di (.bool true) (by omega) (by omega) (by omega)
         refine wpAnyK_step 23 rfl (by kernel_rfl) (fun K hK => ?_)
         go_simp
         refine hK.out _ _ ⟨hS2b, .inl ⟨20, rfl, by kernel_rfl⟩⟩ ?_
         clear hK K
         try simp only [Act.put, s_a, s_b, s_c]
         obtain ⟨X2, hX2⟩ : ∃ X2, X2 = X1.setCell ⟨bk, di, none⟩ (.bool true) := ⟨_, rfl⟩
         rw [← hX2] at hS2b ⊢
         have b2 : X2.heap[w.heap.size + 1 + 1 + 1]? = some (.cells (arcsA t.by_) 159 (0,0)) := by rw [hX2, heap_setCell_other _ _ _ _ (by show w.heap.size + 1 + 1 + 1 ≠ bk; omega)]; exact HB1.out
         obtain ⟨gA, hgA⟩ : ∃ g, getA t.by_ (di : Int) = g := ⟨_, rfl⟩
         have y0 : X2.cell? ⟨w.heap.size + 1 + 1 + 1, di * 5, none⟩ = some (.int .i64 (gA.bd : Int)) := by rw [cell_of_row _ _ _ _ _ _ b2]; have e := arcsA_getD t.by_ (i := di) (j := 0) (by have := HTW.out.2.2; omega) (by omega); rw [Nat.add_zero, hgA] at e; rw [e]; rfl
         have y1 : X2.cell? ⟨w.heap.size + 1 + 1 + 1, di * 5 + 1, none⟩ = some (.bool gA.back) := by rw [cell_of_row _ _ _ _ _ _ b2]; have e := arcsA_getD t.by_ (i := di) (j := 1) (by have := HTW.out.2.2; omega) (by omega); rw [hgA] at e; rw [e]; rfl
         have y2 : X2.cell? ⟨w.heap.size + 1 + 1 + 1, di * 5 + 2, none⟩ = some (.int .i64 gA.src) := by rw [cell_of_row _ _ _ _ _ _ b2]; have e := arcsA_getD t.by_ (i := di) (j := 2) (by have := HTW.out.2.2; omega) (by omega); rw [hgA] at e; rw [e]; rfl
         have y3 : X2.cell? ⟨w.heap.size + 1 + 1 + 1, di * 5 + 3, none⟩ = some (.int .i64 gA.dst) := by rw [cell_of_row _ _ _ _ _ _ b2]; have e := arcsA_getD t.by_ (i := di) (j := 3) (by have := HTW.out.2.2; omega) (by omega); rw [hgA] at e; rw [e]; rfl
         have y4 : X2.cell? ⟨w.heap.size + 1 + 1 + 1, di * 5 + 4, none⟩ = some (.int .i64 gA.cost) := by rw [cell_of_row _ _ _ _ _ _ b2]; have e := arcsA_getD t.by_ (i := di) (j := 4) (by have := HTW.out.2.2; omega) (by omega); rw [hgA] at e; rw [e]; rfl
         have g2 : X2.frozen? ⟨w.heap.size + 1 + 1 + 1, di * 5, none⟩ = false := frozen_of_row _ _ _ _ _ b2
         have g3 : X2.frozen? ⟨w.heap.size + 1 + 1 + 1, di * 5 + 1, none⟩ = false := frozen_of_row _ _ _ _ _ b2
         have g4 : X2.frozen? ⟨w.heap.size + 1 + 1 + 1, di * 5 + 2, none⟩ = false := frozen_of_row _ _ _ _ _ b2
         have g5 : X2.frozen? ⟨w.heap.size + 1 + 1 + 1, di * 5 + 3, none⟩ = false := frozen_of_row _ _ _ _ _ b2
         have g6 : X2.frozen? ⟨w.heap.size + 1 + 1 + 1, di * 5 + 4, none⟩ = false := frozen_of_row _ _ _ _ _ b2
         have HX2 := hidE hX2
         clear hX2 b2 hgA
         refine t_k 24 69 (.pointer (some ⟨w.heap.size + 1 + 1 + 1, di * 5, none⟩)) rfl (by kernel_rfl) rfl (fun _ _ _ h => onlyN_panic h) (fun V hV => ?_) ⟨hS2b, .inl ⟨20, rfl, by kernel_rfl⟩⟩ ?_
         ·simp [go_sem, execOp, d1]
         try simp only [s_a, s_b, s_c]
         have hS2c := ((((hS2b.set (w.heap.size + 1 + 1 + 1) (di * 5) (.int .i64 (abd : Int)) (by omega) (by omega) (by omega)).set (w.heap.size + 1 + 1 + 1) (di * 5 + 1) (.bool aback) (by omega) (by omega) (by omega)).set (w.heap.size + 1 + 1 + 1) (di * 5 + 2) (.int .i64 (si : Int)) (by omega) (by omega) (by omega)).set (w.heap.size + 1 + 1 + 1) (di * 5 + 3) (.int .i64 (di : Int)) (by omega) (by omega) (by omega)).set (w.heap.size + 1 + 1 + 1) (di * 5 + 4) (.int .i64 acost) (by omega) (by omega) (by omega)
         refine wpAnyK_step 25 rfl (by kernel_rfl) (fun K hK => ?_)
         go_simp
         refine hK.out _ _ ⟨hS2c, .inl ⟨20, rfl, by kernel_rfl⟩⟩ ?_
         clear hK K
         try simp only [Act.put, s_a, s_b, s_c]
         refine wpAnyK_done (by kernel_rfl) ⟨rfl, ?_⟩ _
         obtain ⟨X7, hX7⟩ : ∃ X7, X7 = ((((X2.setCell ⟨w.heap.size + 1 + 1 + 1, di * 5, none⟩ (.int .i64 (abd : Int))).setCell ⟨w.heap.size + 1 + 1 + 1, di * 5 + 1, none⟩ (.bool aback)).setCell ⟨w.heap.size + 1 + 1 + 1, di * 5 + 2, none⟩ (.int .i64 (si : Int))).setCell ⟨w.heap.size + 1 + 1 + 1, di * 5 + 3, none⟩ (.int .i64 (di : Int))).setCell ⟨w.heap.size + 1 + 1 + 1, di * 5 + 4, none⟩ (.int .i64 acost) := ⟨_, rfl⟩
         rw [← hX7]
         have s7 : SSt w X7 B bc bk b8 (t.upd ⟨abd, aback, (si : Int), (di : Int), acost⟩) mm := by
          have := HSX.out.upd hbc hbk hBs hbc0 hbk0 hck HTW.out hN ⟨abd, aback, (si : Int), (di : Int), acost⟩ di rfl (by omega)
          simp only [HCS.out] at this
          rw [hX7, HX2.out, HX1.out]; exact this
         have o7 : ∀ q : Nat, q ≠ bc → q ≠ bk → q ≠ w.heap.size + 1 + 1 + 1 → X7.heap[q]? = W.heap[q]? := fun q h1 h2 h3 => by
          rw [hX7, HX2.out, HX1.out, heap_setCell_other _ _ _ _ h3, heap_setCell_other _ _ _ _ h3, heap_setCell_other _ _ _ _ h3, heap_setCell_other _ _ _ _ h3, heap_setCell_other _ _ _ _ h3, heap_setCell_other _ _ _ _ h2, heap_setCell_other _ _ _ _ h1]
          exact HKX.out q
         have z7 : X7.heap.size = W.heap.size := by rw [hX7, HX2.out, HX1.out]; simp only [World.size_setCell]; rw [HX.out]; rfl
         have c7 : X7.cell? ⟨b8, 0, none⟩ = some (.bool mm) := cell_of_one s7.more
         have f7 : X7.frozen? ⟨b8, 0, none⟩ = false := frozen_of_row _ _ _ _ _ s7.more
         have S7 := hidE s7
         have O7 := hidE o7
         clear hX7 s7 o7 y0 y1 y2 y3 y4 g0 g1 g2 g3 g4 g5 g6 a0 a1 hS2 hS2a hS2b hS2c hS
         gi_wp2_with fail
         refine ⟨rfl, ⟨by simp [z7], fun k o hk ho hc => ?_⟩, ⟨⟨by simp [z7], fun q hq => ?_⟩, fun k c t' f hk hc => ?_⟩, ?_⟩
         ·rw [heap_setCell_other _ _ _ _ (by show k ≠ b8; omega), O7.out k (by omega) (by omega) (by omega)]; exact ho
         ·rw [heap_setCell_other _ _ _ _ (by show q ≠ b8; omega), O7.out q (by omega) (by omega) (by omega)]
         ·rw [heap_setCell_other _ _ _ _ (by show k ≠ b8; omega), O7.out k (by omega) (by omega) (by omega)]; exact hc
         ·rw [← hIX]
          refine ⟨?_, fun q h0 h1 h2 h3 h4 => ?_, by simp [z7]; exact hsW⟩
          ·rw [HFO.out, HUP.out]
           exact S7.out.setMore hbc hbk hBs true
          ·rw [heap_setCell_other _ _ _ _ h4, O7.out q h1 h2 h3]; exact HKB.out q h0 h1 h2 h3 h4
       | true =>
         rw [hkd] at kD hbD
         have HD := hidE hkd
         obtain ⟨b3, b4⟩ := hbD rfl
         clear hkd
         by_cases hle : cd ≤ cs + acost
         ·have dl : decide (cd ≤ cs + acost) = true := by simpa using hle
          refine wpIn_region_quiet_round hmx (by kernel_rfl) (by kernel_rfl) ?_
          repeat (go_big_quiet_step (fail))
          refine wpQuiet_nil ?_
          intro _ hw'
          obtain ⟨nq, hw''⟩ := hw'
          subst hw''
          gi_wp2_with fail
          obtain ⟨r1, r2, r3⟩ := HNOT.out nq (relaxA_not (by unfold shorter; simp only [HS.out, HD.out, HCS.out, HCD.out, dl, Bool.true_and, Bool.not_true]))
          exact ⟨rfl, r1, r2, r3⟩
         ·have dl : decide (cd ≤ cs + acost) = false := by simpa using hle
          have HUP := hidE (relaxA_up (s := (t, mm)) (a := ⟨abd, aback, (si : Int), (di : Int), acost⟩) (by unfold shorter; simp only [HS.out, HD.out, HCS.out, HCD.out, dl, Bool.true_and, Bool.not_false]))
          refine wpIn_region_quiet_round hmx (by kernel_rfl) (by kernel_rfl) ?_
          repeat (go_big_quiet_step (fail))
          refine wpQuiet_nil ?_
          intro _ hw'
          obtain ⟨nq, hw''⟩ := hw'
          subst hw''
          gi_wp2_with fail
          obtain ⟨X, hX⟩ : ∃ X, X = (W.drewN nq).drew := ⟨_, rfl⟩
          have ec : ∀ q, X.cell? q = W.cell? q := fun q => by rw [hX]; rfl
          have hS2 : ArcS2 w.heap.size bc bk Bx abd aback si di acost X := ⟨(ec _).trans p0, (ec _).trans p1, (ec _).trans q0, (ec _).trans q1, (ec _).trans q2, (ec _).trans q3, (ec _).trans q4⟩
          have hS : X.cell? ⟨bc, si, none⟩ = some (.int .i64 cs) := (ec _).trans cS
          have sx : SSt w X B bc bk b8 t mm := HST.out.keep (fun _ _ _ h => by rw [hX]; exact h) (by rw [hX]; exact (below_drewN' _ _).trans ((Below.refl _ _).drew))
          have a0 : X.cell? ⟨bc, di, none⟩ = some (.int .i64 cd) := (ec _).trans cD
          have g0 : X.frozen? ⟨bc, di, none⟩ = false := frozen_of_row _ _ _ _ _ sx.cost
          have HSX := hidE sx
          have HX := hidE hX
          have kbx : ∀ q : Nat, X.heap[q]? = W.heap[q]? := fun q => by rw [hX]; rfl
          have HKX := hidE kbx
          clear sx ec kbx p0 p1 q0 q1 q2 q3 q4 kS kD cS cD hbS hbD
          refine wpIn_region_K_in (S2 := ArcS2 w.heap.size bc bk Bx abd aback si di acost) (S := fun V => V.cell? ⟨bc, si, none⟩ = some (.int .i64 cs)) (T := fun t => t == 20 || t == 23 || t == 25) hmx (by kernel_rfl) ?_
          rw [← hX]
          clear hX
          refine wpAnyK_keep (i := 0) (d := 47) (v := .pointer (some ⟨bc, 0, none⟩)) rfl rfl rfl (by kernel_rfl) (by kernel_rfl) (by kernel_rfl) (fun _ _ _ h => onlyN_panic h) (.inl ⟨rfl, fun V hV => ?_⟩) ⟨hS2, .inr hS⟩ ?_
          ·obtain ⟨p0, p1, q0, q1, q2, q3, q4⟩ := hV
           simp [go_sem, execOp, p0]
          try simp only [s_a, s_b, s_c]
          refine t_k 1 48 (.pointer (some ⟨Bx, 3, none⟩)) rfl (by kernel_rfl) rfl (fun _ _ _ h => onlyN_panic h) (fun V hV => ?_) ⟨hS2, .inr hS⟩ ?_
          ·simp [go_sem, execOp]
          try simp only [s_a, s_b, s_c]
          refine wpAnyK_keep (i := 2) (d := 49) (v := .int .i64 (di : Int)) rfl rfl rfl (by kernel_rfl) (by kernel_rfl) (by kernel_rfl) (fun _ _ _ h => onlyN_panic h) (.inl ⟨rfl, fun V hV => ?_⟩) ⟨hS2, .inr hS⟩ ?_
          ·obtain ⟨p0, p1, q0, q1, q2, q3, q4⟩ := hV
           simp [go_sem, execOp, q3]
          try simp only [s_a, s_b, s_c]
          refine wpAnyK_keep (i := 3) (d := 50) (v := .pointer (some ⟨bk, 0, none⟩)) rfl rfl rfl (by kernel_rfl) (by kernel_rfl) (by kernel_rfl) (fun _ _ _ h => onlyN_panic h) (.inl ⟨rfl, fun V hV => ?_⟩) ⟨hS2, .inr hS⟩ ?_
          ·obtain ⟨p0, p1, q0, q1, q2, q3, q4⟩ := hV
           simp [go_sem, execOp, p1]
          try simp only [s_a, s_b, s_c]
          refine t_k 4 51 (.pointer (some ⟨Bx, 3, none⟩)) rfl (by kernel_rfl) rfl (fun _ _ _ h => onlyN_panic h) (fun V hV => ?_) ⟨hS2, .inr hS⟩ ?_
          ·simp [go_sem, execOp]
          try simp only [s_a, s_b, s_c]
          refine wpAnyK_keep (i := 5) (d := 52) (v := .int .i64 (di : Int)) rfl rfl rfl (by kernel_rfl) (by kernel_rfl) (by kernel_rfl) (fun _ _ _ h => onlyN_panic h) (.inl ⟨rfl, fun V hV => ?_⟩) ⟨hS2, .inr hS⟩ ?_
          ·obtain ⟨p0, p1, q0, q1, q2, q3, q4⟩ := hV
           simp [go_sem, execOp, q3]
          try simp only [s_a, s_b, s_c]
          refine t_k 6 53 (.pointer (some ⟨Bx, 3, none⟩)) rfl (by kernel_rfl) rfl (fun _ _ _ h => onlyN_panic h) (fun V hV => ?_) ⟨hS2, .inr hS⟩ ?_
          ·simp [go_sem, execOp]
          try simp only [s_a, s_b, s_c]
          refine wpAnyK_keep (i := 7) (d := 54) (v := .int .i64 (di : Int)) rfl rfl rfl (by kernel_rfl) (by kernel_rfl) (by kernel_rfl) (fun _ _ _ h => onlyN_panic h) (.inl ⟨rfl, fun V hV => ?_⟩) ⟨hS2, .inr hS⟩ ?_
          ·obtain ⟨p0, p1, q0, q1, q2, q3, q4⟩ := hV
           simp [go_sem, execOp, q3]
          try simp only [s_a, s_b, s_c]
          refine wpAnyK_keep (i := 8) (d := 55) (v := .pointer (some ⟨bc, 0, none⟩)) rfl rfl rfl (by kernel_rfl) (by kernel_rfl) (by kernel_rfl) (fun _ _ _ h => onlyN_panic h) (.inl ⟨rfl, fun V hV => ?_⟩) ⟨hS2, .inr hS⟩ ?_
          ·obtain ⟨p0, p1, q0, q1, q2, q3, q4⟩ := hV
           simp [go_sem, execOp, p0]
          try simp only [s_a, s_b, s_c]
          refine t_k 9 56 (.pointer (some ⟨Bx, 2, none⟩)) rfl (by kernel_rfl) rfl (fun _ _ _ h => onlyN_panic h) (fun V hV => ?_) ⟨hS2, .inr hS⟩ ?_
          ·simp [go_sem, execOp]
          try simp only [s_a, s_b, s_c]
          refine wpAnyK_keep (i := 10) (d := 57) (v := .int .i64 (si : Int)) rfl rfl rfl (by kernel_rfl) (by kernel_rfl) (by kernel_rfl) (fun _ _ _ h => onlyN_panic h) (.inl ⟨rfl, fun V hV => ?_⟩) ⟨hS2, .inr hS⟩ ?_
          ·obtain ⟨p0, p1, q0, q1, q2, q3, q4⟩ := hV
           simp [go_sem, execOp, q2]
          try simp only [s_a, s_b, s_c]
          refine t_k 11 58 (.pointer (some ⟨bc, 0, none⟩)) rfl (by kernel_rfl) rfl (fun _ _ _ h => onlyN_panic h) (fun V hV => ?_) ⟨hS2, .inr hS⟩ ?_
          ·simp [go_sem, execOp]
          try simp only [s_a, s_b, s_c]
          refine t_k 12 59 (.pointer (some ⟨bc, si, none⟩)) rfl (by kernel_rfl) rfl (fun _ _ _ h => onlyN_panic h) (fun V hV => ?_) ⟨hS2, .inr hS⟩ ?_
          ·simp [go_sem, execOp, s1]
          try simp only [s_a, s_b, s_c]
          refine wpAnyK_load (i := 13) (d := 60) (v := .int .i64 cs) rfl rfl rfl (by kernel_rfl) (by kernel_rfl) (by kernel_rfl) (by kernel_rfl) (by kernel_rfl) (fun _ _ _ h => onlyN_panic h) (.inl ⟨rfl, fun V hV => ?_⟩) hS hS2 ?_
          ·simp [go_sem, execOp, hV]
          try simp only [s_a, s_b, s_c]
          refine t_k 14 61 (.pointer (some ⟨Bx, 4, none⟩)) rfl (by kernel_rfl) rfl (fun _ _ _ h => onlyN_panic h) (fun V hV => ?_) ⟨hS2, .inr hS⟩ ?_
          ·simp [go_sem, execOp]
          try simp only [s_a, s_b, s_c]
          refine wpAnyK_keep (i := 15) (d := 62) (v := .int .i64 acost) rfl rfl rfl (by kernel_rfl) (by kernel_rfl) (by kernel_rfl) (fun _ _ _ h => onlyN_panic h) (.inl ⟨rfl, fun V hV => ?_⟩) ⟨hS2, .inr hS⟩ ?_
          ·obtain ⟨p0, p1, q0, q1, q2, q3, q4⟩ := hV
           simp [go_sem, execOp, q4]
          try simp only [s_a, s_b, s_c]
          refine t_k 16 63 (.int .i64 (cs + acost)) rfl (by kernel_rfl) rfl (fun _ _ _ h => onlyN_panic h) (fun V hV => ?_) ⟨hS2, .inr hS⟩ ?_
          ·simp [go_sem, execOp, wadd]
          try simp only [s_a, s_b, s_c]
          refine wpAnyK_keep (i := 17) (d := 64) (v := .agg #[.int .i64 (abd : Int), .bool aback, .int .i64 (si : Int), .int .i64 (di : Int), .int .i64 acost]) rfl rfl rfl (by kernel_rfl) (by kernel_rfl) (by kernel_rfl) (fun _ _ _ h => onlyN_panic h) (.inl ⟨rfl, fun V hV => ?_⟩) ⟨hS2, .inr hS⟩ ?_
          ·obtain ⟨p0, p1, q0, q1, q2, q3, q4⟩ := hV
           simp [go_sem, execOp, q0, q1, q2, q3, q4]
          try simp only [s_a, s_b, s_c]
          refine t_k 18 65 (.pointer (some ⟨bc, 0, none⟩)) rfl (by kernel_rfl) rfl (fun _ _ _ h => onlyN_panic h) (fun V hV => ?_) ⟨hS2, .inr hS⟩ ?_
          ·simp [go_sem, execOp]
          try simp only [s_a, s_b, s_c]
          refine t_k 19 66 (.pointer (some ⟨bc, di, none⟩)) rfl (by kernel_rfl) rfl (fun _ _ _ h => onlyN_panic h) (fun V hV => ?_) ⟨hS2, .inr hS⟩ ?_
          ·simp [go_sem, execOp, d1]
          try simp only [s_a, s_b, s_c]
          refine t_k 21 67 (.pointer (some ⟨bk, 0, none⟩)) rfl (by kernel_rfl) rfl (fun _ _ _ h => onlyN_panic h) (fun V hV => ?_) ⟨hS2, .inr hS⟩ ?_
          ·simp [go_sem, execOp]
          try simp only [s_a, s_b, s_c]
          have hS2a := hS2.set bc di (.int .i64 (cs + acost)) (by omega) (by omega) (by omega)
          refine wpAnyK_step 20 rfl (by kernel_rfl) (fun K hK => ?_)
          go_simp
          refine hK.out _ _ ⟨hS2a, .inl ⟨20, rfl, by kernel_rfl⟩⟩ ?_
          clear hK K
          try simp only [Act.put, s_a, s_b, s_c]
          obtain ⟨X1, hX1⟩ : ∃ X1, X1 = X.setCell ⟨bc, di, none⟩ (.int .i64 (cs + acost)) := ⟨_, rfl⟩
          rw [← hX1] at hS2a ⊢
          have k1 : X1.heap[bk]? = some (.cells (boolA t.k) 156 (0,0)) := by rw [hX1, heap_setCell_other _ _ _ _ (by show bk ≠ bc; omega)]; exact HSX.out.known
          have a1 : X1.cell? ⟨bk, di, none⟩ = some (.bool (getK t.k (di : Int))) := by rw [cell_of_row _ _ _ _ _ _ k1, getK_at (by have := HTW.out.2.1; omega)]
          have g1 : X1.frozen? ⟨bk, di, none⟩ = false := frozen_of_row _ _ _ _ _ k1
          have b1 : X1.heap[w.heap.size + 1 + 1 + 1]? = some (.cells (arcsA t.by_) 159 (0,0)) := by rw [hX1, heap_setCell_other _ _ _ _ (by show w.heap.size + 1 + 1 + 1 ≠ bc; omega)]; exact HSX.out.by_
          have HX1 := hidE hX1
          have HB1 := hidE b1
          clear hX1 k1 b1
          refine t_k 22 68 (.pointer (some ⟨bk, di, none⟩)) rfl (by kernel_rfl) rfl (fun _ _ _ h => onlyN_panic h) (fun V hV => ?_) ⟨hS2a, .inl ⟨20, rfl, by kernel_rfl⟩⟩ ?_
          ·simp [go_sem, execOp, d1]
          try simp only [s_a, s_b, s_c]
          have hS2b := hS2a.set bk di (.bool true) (by omega) (by omega) (by omega)
          refine wpAnyK_step 23 rfl (by kernel_rfl) (fun K hK => ?_)
          go_simp
          refine hK.out _ _ ⟨hS2b, .inl ⟨20, rfl, by kernel_rfl⟩⟩ ?_
          clear hK K
          try simp only [Act.put, s_a, s_b, s_c]
          obtain ⟨X2, hX2⟩ : ∃ X2, X2 = X1.setCell ⟨bk, di, none⟩ (.bool true) := ⟨_, rfl⟩
          rw [← hX2] at hS2b ⊢
          have b2 : X2.heap[w.heap.size + 1 + 1 + 1]? = some (.cells (arcsA t.by_) 159 (0,0)) := by rw [hX2, heap_setCell_other _ _ _ _ (by show w.heap.size + 1 + 1 + 1 ≠ bk; omega)]; exact HB1.out
          obtain ⟨gA, hgA⟩ : ∃ g, getA t.by_ (di : Int) = g := ⟨_, rfl⟩
          have y0 : X2.cell? ⟨w.heap.size + 1 + 1 + 1, di * 5, none⟩ = some (.int .i64 (gA.bd : Int)) := by rw [cell_of_row _ _ _ _ _ _ b2]; have e := arcsA_getD t.by_ (i := di) (j := 0) (by have := HTW.out.2.2; omega) (by omega); rw [Nat.add_zero, hgA] at e; rw [e]; rfl
          have y1 : X2.cell? ⟨w.heap.size + 1 + 1 + 1, di * 5 + 1, none⟩ = some (.bool gA.back) := by rw [cell_of_row _ _ _ _ _ _ b2]; have e := arcsA_getD t.by_ (i := di) (j := 1) (by have := HTW.out.2.2; omega) (by omega); rw [hgA] at e; rw [e]; rfl
          have y2 : X2.cell? ⟨w.heap.size + 1 + 1 + 1, di * 5 + 2, none⟩ = some (.int .i64 gA.src) := by rw [cell_of_row _ _ _ _ _ _ b2]; have e := arcsA_getD t.by_ (i := di) (j := 2) (by have := HTW.out.2.2; omega) (by omega); rw [hgA] at e; rw [e]; rfl
          have y3 : X2.cell? ⟨w.heap.size + 1 + 1 + 1, di * 5 + 3, none⟩ = some (.int .i64 gA.dst) := by rw [cell_of_row _ _ _ _ _ _ b2]; have e := arcsA_getD t.by_ (i := di) (j := 3) (by have := HTW.out.2.2; omega) (by omega); rw [hgA] at e; rw [e]; rfl
          have y4 : X2.cell? ⟨w.heap.size + 1 + 1 + 1, di * 5 + 4, none⟩ = some (.int .i64 gA.cost) := by rw [cell_of_row _ _ _ _ _ _ b2]; have e := arcsA_getD t.by_ (i := di) (j := 4) (by have := HTW.out.2.2; omega) (by omega); rw [hgA] at e; rw [e]; rfl
          have g2 : X2.frozen? ⟨w.heap.size + 1 + 1 + 1, di * 5, none⟩ = false := frozen_of_row _ _ _ _ _ b2
          have g3 : X2.frozen? ⟨w.heap.size + 1 + 1 + 1, di * 5 + 1, none⟩ = false := frozen_of_row _ _ _ _ _ b2
          have g4 : X2.frozen? ⟨w.heap.size + 1 + 1 + 1, di * 5 + 2, none⟩ = false := frozen_of_row _ _ _ _ _ b2
          have g5 : X2.frozen? ⟨w.heap.size + 1 + 1 + 1, di * 5 + 3, none⟩ = false := frozen_of_row _ _ _ _ _ b2
          have g6 : X2.frozen? ⟨w.heap.size + 1 + 1 + 1, di * 5 + 4, none⟩ = false := frozen_of_row _ _ _ _ _ b2
          have HX2 := hidE hX2
          clear hX2 b2 hgA
          refine t_k 24 69 (.pointer (some ⟨w.heap.size + 1 + 1 + 1, di * 5, none⟩)) rfl (by kernel_rfl) rfl (fun _ _ _ h => onlyN_panic h) (fun V hV => ?_) ⟨hS2b, .inl ⟨20, rfl, by kernel_rfl⟩⟩ ?_
          ·simp [go_sem, execOp, d1]
          try simp only [s_a, s_b, s_c]
          have hS2c := ((((hS2b.set (w.heap.size + 1 + 1 + 1) (di * 5) (.int .i64 (abd : Int)) (by omega) (by omega) (by omega)).set (w.heap.size + 1 + 1 + 1) (di * 5 + 1) (.bool aback) (by omega) (by omega) (by omega)).set (w.heap.size + 1 + 1 + 1) (di * 5 + 2) (.int .i64 (si : Int)) (by omega) (by omega) (by omega)).set (w.heap.size + 1 + 1 + 1) (di * 5 + 3) (.int .i64 (di : Int)) (by omega) (by omega) (by omega)).set (w.heap.size + 1 + 1 + 1) (di * 5 + 4) (.int .i64 acost) (by omega) (by omega) (by omega)
          refine wpAnyK_step 25 rfl (by kernel_rfl) (fun K hK => ?_)
          go_simp
          refine hK.out _ _ ⟨hS2c, .inl ⟨20, rfl, by kernel_rfl⟩⟩ ?_
          clear hK K
          try simp only [Act.put, s_a, s_b, s_c]
          refine wpAnyK_done (by kernel_rfl) ⟨rfl, ?_⟩ _
          obtain ⟨X7, hX7⟩ : ∃ X7, X7 = ((((X2.setCell ⟨w.heap.size + 1 + 1 + 1, di * 5, none⟩ (.int .i64 (abd : Int))).setCell ⟨w.heap.size + 1 + 1 + 1, di * 5 + 1, none⟩ (.bool aback)).setCell ⟨w.heap.size + 1 + 1 + 1, di * 5 + 2, none⟩ (.int .i64 (si : Int))).setCell ⟨w.heap.size + 1 + 1 + 1, di * 5 + 3, none⟩ (.int .i64 (di : Int))).setCell ⟨w.heap.size + 1 + 1 + 1, di * 5 + 4, none⟩ (.int .i64 acost) := ⟨_, rfl⟩
          rw [← hX7]
          have s7 : SSt w X7 B bc bk b8 (t.upd ⟨abd, aback, (si : Int), (di : Int), acost⟩) mm := by
           have := HSX.out.upd hbc hbk hBs hbc0 hbk0 hck HTW.out hN ⟨abd, aback, (si : Int), (di : Int), acost⟩ di rfl (by omega)
           simp only [HCS.out] at this
           rw [hX7, HX2.out, HX1.out]; exact this
          have o7 : ∀ q : Nat, q ≠ bc → q ≠ bk → q ≠ w.heap.size + 1 + 1 + 1 → X7.heap[q]? = W.heap[q]? := fun q h1 h2 h3 => by
           rw [hX7, HX2.out, HX1.out, heap_setCell_other _ _ _ _ h3, heap_setCell_other _ _ _ _ h3, heap_setCell_other _ _ _ _ h3, heap_setCell_other _ _ _ _ h3, heap_setCell_other _ _ _ _ h3, heap_setCell_other _ _ _ _ h2, heap_setCell_other _ _ _ _ h1]
           exact HKX.out q
          have z7 : X7.heap.size = W.heap.size := by rw [hX7, HX2.out, HX1.out]; simp only [World.size_setCell]; rw [HX.out]; rfl
          have c7 : X7.cell? ⟨b8, 0, none⟩ = some (.bool mm) := cell_of_one s7.more
          have f7 : X7.frozen? ⟨b8, 0, none⟩ = false := frozen_of_row _ _ _ _ _ s7.more
          have S7 := hidE s7
          have O7 := hidE o7
          clear hX7 s7 o7 y0 y1 y2 y3 y4 g0 g1 g2 g3 g4 g5 g6 a0 a1 hS2 hS2a hS2b hS2c hS
          gi_wp2_with fail
          refine ⟨rfl, ⟨by simp [z7], fun k o hk ho hc => ?_⟩, ⟨⟨by simp [z7], fun q hq => ?_⟩, fun k c t' f hk hc => ?_⟩, ?_⟩
          ·rw [heap_setCell_other _ _ _ _ (by show k ≠ b8; omega), O7.out k (by omega) (by omega) (by omega)]; exact ho
          ·rw [heap_setCell_other _ _ _ _ (by show q ≠ b8; omega), O7.out q (by omega) (by omega) (by omega)]
          ·rw [heap_setCell_other _ _ _ _ (by show k ≠ b8; omega), O7.out k (by omega) (by omega) (by omega)]; exact hc
          ·rw [← hIX]
           refine ⟨?_, fun q h0 h1 h2 h3 h4 => ?_, by simp [z7]; exact hsW⟩
           ·rw [HFO.out, HUP.out]
            exact S7.out.setMore hbc hbk hBs true
           ·rw [heap_setCell_other _ _ _ _ h4, O7.out q h1 h2 h3]; exact HKB.out q h0 h1 h2 h3 h4
theorem needs_any (x : Int) (w : World) : Calls Tryz.prog 188 #[.int .i64 x] w fun e w' => e = .returned (.bool (decide (0 < x))) ∧ Below w.heap.size w w' := by
 obtain ⟨b, hb⟩ : ∃ b, decide (0 < x) = b := ⟨_, rfl⟩
 rw [hb]
 go_enter Tryz.func188, Tryz.ntmps188
 go_wp2_with fail
 go_ret
 exact ⟨rfl, Below.refl _ _⟩
theorem src_cell {W : World} {b n : Nat} {l : List Arc} {g : Arc} (h : W.heap[b]? = some (.cells (arcsA l) 159 (0,0))) (hn : n < l.length) (hg : getA l (n : Int) = g) : W.cell? ⟨b, n * 5 + 2, none⟩ = some (.int .i64 g.src) := by
 rw [cell_of_row _ _ _ _ _ _ h, arcsA_getD l hn (j := 2) (by omega), hg]; rfl
set_option maxRecDepth 100000 in
set_option maxHeartbeats 2000000 in
theorem way_any (w : World) (bq bp bby : Nat) (q p : Int) (by_ : List Arc) (f : Nat) (L : List Arc) (df : FuncId) (caps : Array Value) (I : List Arc → World → Prop) (hL : wayGo by_ p f q = some L) (hby : by_.length = 128) (hq0 : 0 ≤ q) (hq1 : q < 128) (hr : ∀ a ∈ L, 0 ≤ a.src ∧ a.src < 128)
 (hq : w.cell? ⟨bq, 0, none⟩ = some (.int .i64 q)) (hI : ∀ pre W, I pre W → W.cell? ⟨bp, 0, none⟩ = some (.int .i64 p) ∧ W.heap[bby]? = some (.cells (arcsA by_) 159 (0,0))) (h0 : I [] w)
 (hdo : ∀ pre a W, I pre W → (∃ post, L = pre ++ a :: post) → Calls Tryz.prog df (#[a.val] ++ caps) W fun e W' => e = .returned (.tuple #[]) ∧ I (pre ++ [a]) W') (eg : Enters Tryz.prog df) :
 Calls Tryz.prog 189 #[.func (.func df) #[] caps, .pointer (some ⟨bq, 0, none⟩), .pointer (some ⟨bp, 0, none⟩), .pointer (some ⟨bby, 0, none⟩)] w fun e w' => e = .returned (.tuple #[]) ∧ I L w' := by
 have HI := hidE hI
 have HDO := hidE hdo
 have HR := hidE hr
 have HL := hidE hL
 have H0 := hidE h0
 unfold Enters at eg
 clear hI hdo hr hL h0
 go_enter Tryz.func189, Tryz.ntmps189
 go_wp2_with fail
 go_loopg [5] f (fun gg at_ wr => ∃ (pre rest : List Arc) (v : Int), at_ = .int .i64 v ∧ Hid (wayGo by_ p gg v = some rest) ∧ Hid (L = pre ++ rest) ∧ Hid (I pre wr) ∧ 0 ≤ v ∧ v < 128)
 case atStart => exact ⟨[], L, q, rfl, HL, hidE rfl, H0, hq0, hq1⟩
 case round =>
  obtain ⟨pre, rest, v, rfl, hw, hsp, hi, v0, v1⟩ := hrel
  obtain ⟨cp, hb⟩ := HI.out _ _ hi.out
  obtain ⟨n, rfl⟩ := Int.eq_ofNat_of_zero_le v0
  cases gk with
  | zero => have := hw.out; simp [wayGo] at this
  | succ g =>
    have hw2 := hw.out
    unfold wayGo at hw2
    by_cases e : (n : Int) = p
    ·rw [if_pos e] at hw2
     obtain rfl := Option.some.inj hw2
     have d1 : ((n : Int) != p) = false := by simp [e]
     have d2 : ((n : Int) == p) = true := by simp [e]
     have HB := hidE hb
     have HSP := hidE hsp.out
     have HII := hidE hi.out
     clear hw2 hb e
     go_wp2_with fail
     go_end0
     exact ⟨rfl, by rw [HSP.out, List.append_nil]; exact HII.out⟩
    ·rw [if_neg e] at hw2
     obtain ⟨rest', hw3, rfl⟩ := Option.map_eq_some_iff.1 hw2
     have d1 : ((n : Int) != p) = true := by simp [e]
     have d2 : ((n : Int) == p) = false := by simp [e]
     have hn : n < 128 := by omega
     have hcall := HDO.out pre (getA by_ (n : Int)) wr hi.out ⟨rest', hsp.out⟩
     have hmem : getA by_ (n : Int) ∈ L := by rw [hsp.out]; simp
     obtain ⟨s0, s1⟩ := HR.out _ hmem
     have hsp2 : L = (pre ++ [getA by_ (n : Int)]) ++ rest' := by rw [hsp.out]; simp
     have y0 : wr.cell? ⟨bby, n * 5, none⟩ = some (.int .i64 ((getA by_ (n : Int)).bd : Int)) := by rw [cell_of_row _ _ _ _ _ _ hb]; have e := arcsA_getD by_ (i := n) (j := 0) (by omega) (by omega); rw [Nat.add_zero] at e; rw [e]; rfl
     have y1 : wr.cell? ⟨bby, n * 5 + 1, none⟩ = some (.bool (getA by_ (n : Int)).back) := by rw [cell_of_row _ _ _ _ _ _ hb, arcsA_getD by_ (i := n) (j := 1) (by omega) (by omega)]; rfl
     have y2 : wr.cell? ⟨bby, n * 5 + 2, none⟩ = some (.int .i64 (getA by_ (n : Int)).src) := by rw [cell_of_row _ _ _ _ _ _ hb, arcsA_getD by_ (i := n) (j := 2) (by omega) (by omega)]; rfl
     have y3 : wr.cell? ⟨bby, n * 5 + 3, none⟩ = some (.int .i64 (getA by_ (n : Int)).dst) := by rw [cell_of_row _ _ _ _ _ _ hb, arcsA_getD by_ (i := n) (j := 3) (by omega) (by omega)]; rfl
     have y4 : wr.cell? ⟨bby, n * 5 + 4, none⟩ = some (.int .i64 (getA by_ (n : Int)).cost) := by rw [cell_of_row _ _ _ _ _ _ hb, arcsA_getD by_ (i := n) (j := 4) (by omega) (by omega)]; rfl
     obtain ⟨ga, hga⟩ : ∃ ga, getA by_ (n : Int) = ga := ⟨_, rfl⟩
     rw [hga] at hw3 hcall hsp2 y0 y1 y2 y3 y4 s0 s1
     have HGA := hidE hga
     have HW3 := hidE hw3
     have HSP := hidE hsp2
     have HCALL := hidE hcall
     unfold Arc.val at HCALL
     have n1 : (n : Int) < 128 := by omega
     clear hw2 hw3 hsp2 hcall hmem hb e hga hsp hi hw
     go_wp2_with (go_at_fn df; refine HCALL.out.mono ?_; rintro e w' ⟨rfl, hi'⟩; have y2b := src_cell (HI.out _ _ hi').2 (by omega) HGA.out; have HI2 := hidE hi'; clear hi')
     go_roundg g
     case rel => exact ⟨pre ++ [ga], rest', ga.src, rfl, HW3, HSP, HI2, s0, s1⟩
     case measure => omega
def netF (N : Int) (sB sF : Value) (need : List Int) : Array Value := ([.int .i64 N, sB, sF] ++ intsV need).toArray
theorem netF_get {N : Int} {sB sF : Value} {need : List Int} {i : Nat} (hi : i < need.length) : (netF N sB sF need)[3 + i]? = some (.int .i64 (need.getD i 0)) := by
 rw [show 3 + i = i + 3 by omega]; simp [netF, intsV, hi]
theorem netF_set (N : Int) (sB sF : Value) (need : List Int) (i : Nat) (v : Int) : (netF N sB sF need).setIfInBounds (3 + i) (.int .i64 v) = netF N sB sF (need.set i v) := by
 rw [show 3 + i = i + 3 by omega]; simp [netF, intsV, List.map_set]
set_option maxRecDepth 100000 in
set_option maxHeartbeats 2000000 in
theorem less_any (w : World) (a : Arc) (bm bx bn gF capF : Nat) (flow : List Int) (m : Int) (hm : w.heap[bm]? = some (.cells #[.int .i64 m] 3 (0,0))) (hx : w.heap[bx]? = some (.cells #[.pointer (some ⟨bn, 0, none⟩)] 152 (0,0)))
 (hn : w.cell? ⟨bn, 2, none⟩ = some (.slice (some ⟨gF, 0, none⟩) flow.length capF)) (hF : w.heap[gF]? = some (.cells (rowA flow) 3 (0,0))) (hnl : bn < w.heap.size) (ha : a.bd < flow.length) (_hl : flow.length ≤ 4000) :
 Calls Tryz.prog 190 #[a.val, .pointer (some ⟨bm, 0, none⟩), .pointer (some ⟨bx, 0, none⟩)] w fun e w' => e = .returned (.tuple #[]) ∧ w'.heap[bm]? = some (.cells #[.int .i64 (less1 flow m a)] 3 (0,0)) ∧ (∀ q : Nat, q < w.heap.size → q ≠ bm → w'.heap[q]? = w.heap[q]?) ∧ Below bm w w' := by
 obtain ⟨bd, back, src, dst, cost⟩ := a
 simp only at ha
 unfold Arc.val
 obtain ⟨W1, hW1⟩ : ∃ W1, W1 = w.alloc (.cells #[.int .i64 (bd : Int), .bool back, .int .i64 src, .int .i64 dst, .int .i64 cost] 158) := ⟨_, rfl⟩
 have bb : Below w.heap.size w W1 := by rw [hW1]; exact (Below.refl _ _).alloc (Nat.le_refl _) _
 have hbm := lt_of_block hm
 have x0 : W1.heap[w.heap.size]? = some (.cells #[.int .i64 (bd : Int), .bool back, .int .i64 src, .int .i64 dst, .int .i64 cost] 158 (0,0)) := by rw [hW1]; exact heap_alloc_new _ _
 have z0 : W1.cell? ⟨w.heap.size, 0, none⟩ = some (.int .i64 (bd : Int)) := c_e x0 rfl
 have z1 : W1.cell? ⟨w.heap.size, 1, none⟩ = some (.bool back) := c_e x0 rfl
 have m1 := blk_below bb hbm hm
 have c0 : W1.cell? ⟨bm, 0, none⟩ = some (.int .i64 m) := cell_of_one m1
 have f0 : W1.frozen? ⟨bm, 0, none⟩ = false := frozen_of_row _ _ _ _ _ m1
 have c1 : W1.cell? ⟨bx, 0, none⟩ = some (.pointer (some ⟨bn, 0, none⟩)) := cell_of_one (blk_below bb (lt_of_block hx) hx)
 have c2 : W1.cell? ⟨bn, 2, none⟩ = some (.slice (some ⟨gF, 0, none⟩) flow.length capF) := (bb.cell (p := ⟨bn, 2, none⟩) hnl).trans hn
 have c3 : W1.cell? ⟨gF, bd, none⟩ = some (.int .i64 (flow.getD bd 0)) := by rw [cell_of_row _ _ _ _ _ _ (blk_below bb (lt_of_block hF) hF), rowA_get ha]
 have hbd : (bd : Int) < flow.length := by omega
 obtain ⟨n, hn9⟩ : ∃ n, flow.length = n := ⟨_, rfl⟩
 rw [hn9] at c2 ha _hl hbd
 obtain ⟨z, hz⟩ : ∃ z, flow.getD bd 0 = z := ⟨_, rfl⟩
 rw [hz] at c3
 have HW1 := hidE hW1
 have HZ := hidE hz
 have HBB := hidE bb
 have HM1 := hidE m1
 clear hm hx hn hF hnl x0 m1 bb hn9 hz
 go_enter Tryz.func190, Tryz.ntmps190
 cases back with
 | false =>
   go_wp2_with fail
   rw [← hW1]
   clear hW1
   go_wp2_with fail
   go_end0
   refine ⟨rfl, HM1.out, fun q hq _ => HBB.out.block q hq, HBB.out.mono (by omega)⟩
 | true =>
   go_upto_region 1 with fail
   rw [← hW1]
   clear hW1
   go_upto_region 2 with fail
   go_still_tail 10, (by kernel_rfl)
   go_wp2_with fail
   go_end0
   have e1 : less1 flow m ⟨bd, true, src, dst, cost⟩ = min m z := by unfold less1; rw [if_pos rfl]; simp only [HZ.out]
   refine ⟨rfl, ?_, fun q hq h1 => ?_, ?_⟩
   ·rw [e1]; exact (heap_setCell_same _ _ _ _ _ _ HM1.out)
   ·exact (heap_setCell_other _ _ _ _ h1).trans (HBB.out.block q hq)
   ·have hb2 : Below bm w W1 := HBB.out.mono (by omega)
    exact (hb2.setCell (p := ⟨bm, 0, none⟩) (Nat.le_refl _) _).drew
set_option maxRecDepth 100000 in
set_option maxHeartbeats 2000000 in
theorem move_any (w : World) (a : Arc) (bm bx bn gF capF : Nat) (flow : List Int) (m : Int) (hm : w.heap[bm]? = some (.cells #[.int .i64 m] 3 (0,0))) (hx : w.heap[bx]? = some (.cells #[.pointer (some ⟨bn, 0, none⟩)] 152 (0,0)))
 (hn : w.cell? ⟨bn, 2, none⟩ = some (.slice (some ⟨gF, 0, none⟩) flow.length capF)) (hF : w.heap[gF]? = some (.cells (rowA flow) 3 (0,0))) (hnl : bn < w.heap.size) (ha : a.bd < flow.length) (_hl : flow.length ≤ 4000)
 (hf : -2000000000000 ≤ flow.getD a.bd 0 ∧ flow.getD a.bd 0 ≤ 2000000000000) (hmm : -2000000000000 ≤ m ∧ m ≤ 2000000000000) :
 Calls Tryz.prog 191 #[a.val, .pointer (some ⟨bx, 0, none⟩), .pointer (some ⟨bm, 0, none⟩)] w fun e w' => e = .returned (.tuple #[]) ∧ w'.heap[gF]? = some (.cells (rowA (move1 m flow a)) 3 (0,0)) ∧ (∀ q : Nat, q < w.heap.size → q ≠ gF → w'.heap[q]? = w.heap[q]?) ∧ Below gF w w' := by
 obtain ⟨bd, back, src, dst, cost⟩ := a
 simp only at ha hf
 unfold Arc.val
 obtain ⟨W1, hW1⟩ : ∃ W1, W1 = w.alloc (.cells #[.int .i64 (bd : Int), .bool back, .int .i64 src, .int .i64 dst, .int .i64 cost] 158) := ⟨_, rfl⟩
 have bb : Below w.heap.size w W1 := by rw [hW1]; exact (Below.refl _ _).alloc (Nat.le_refl _) _
 have hgF := lt_of_block hF
 have x0 : W1.heap[w.heap.size]? = some (.cells #[.int .i64 (bd : Int), .bool back, .int .i64 src, .int .i64 dst, .int .i64 cost] 158 (0,0)) := by rw [hW1]; exact heap_alloc_new _ _
 have z0 : W1.cell? ⟨w.heap.size, 0, none⟩ = some (.int .i64 (bd : Int)) := c_e x0 rfl
 have z1 : W1.cell? ⟨w.heap.size, 1, none⟩ = some (.bool back) := c_e x0 rfl
 have m1 := blk_below bb hgF hF
 have f0 : W1.frozen? ⟨gF, bd, none⟩ = false := frozen_of_row _ _ _ _ _ m1
 have c0 : W1.cell? ⟨bm, 0, none⟩ = some (.int .i64 m) := cell_of_one (blk_below bb (lt_of_block hm) hm)
 have c1 : W1.cell? ⟨bx, 0, none⟩ = some (.pointer (some ⟨bn, 0, none⟩)) := cell_of_one (blk_below bb (lt_of_block hx) hx)
 have c2 : W1.cell? ⟨bn, 2, none⟩ = some (.slice (some ⟨gF, 0, none⟩) flow.length capF) := (bb.cell (p := ⟨bn, 2, none⟩) hnl).trans hn
 have c3 : W1.cell? ⟨gF, bd, none⟩ = some (.int .i64 (flow.getD bd 0)) := by rw [cell_of_row _ _ _ _ _ _ m1, rowA_get ha]
 have hbd : (bd : Int) < flow.length := by omega
 obtain ⟨n, hn9⟩ : ∃ n, flow.length = n := ⟨_, rfl⟩
 rw [hn9] at c2 ha _hl hbd
 obtain ⟨z, hz⟩ : ∃ z, flow.getD bd 0 = z := ⟨_, rfl⟩
 rw [hz] at c3 hf
 have HW1 := hidE hW1
 have HZ := hidE hz
 have HBB := hidE bb
 have HM1 := hidE m1
 clear hm hx hn hF hnl x0 m1 bb hn9 hz
 go_enter Tryz.func191, Tryz.ntmps191
 cases back with
 | false =>
   have e1 := hidE (show move1 m flow ⟨bd, false, src, dst, cost⟩ = flow.set bd (z + m) by unfold move1; rw [if_neg (by simp)]; simp only [HZ.out])
   have ww : IntKind.i64.wrap (z + m) = z + m := IntWalk.i64_in _ (by omega)
   go_upto_region 1 with fail
   rw [← hW1]
   clear hW1
   go_upto_region 3 with fail
   go_still_tail 10, (by kernel_rfl)
   go_wp2_with fail
   go_end0
   refine ⟨rfl, ?_, fun q hq h1 => ?_, ?_⟩
   ·rw [e1.out, ← rowA_set]; exact (heap_setCell_same _ _ _ _ _ _ HM1.out)
   ·exact (heap_setCell_other _ _ _ _ h1).trans (HBB.out.block q hq)
   ·have hb2 : Below gF w W1 := HBB.out.mono (by omega)
    exact (hb2.setCell (p := ⟨gF, bd, none⟩) (Nat.le_refl _) _).drew
 | true =>
   have e1 := hidE (show move1 m flow ⟨bd, true, src, dst, cost⟩ = flow.set bd (z - m) by unfold move1; rw [if_pos rfl]; simp only [HZ.out])
   have ww : IntKind.i64.wrap (z - m) = z - m := IntWalk.i64_in _ (by omega)
   go_upto_region 1 with fail
   rw [← hW1]
   clear hW1
   go_upto_region 2 with fail
   go_still_tail 10, (by kernel_rfl)
   go_wp2_with fail
   go_end0
   refine ⟨rfl, ?_, fun q hq h1 => ?_, ?_⟩
   ·rw [e1.out, ← rowA_set]; exact (heap_setCell_same _ _ _ _ _ _ HM1.out)
   ·exact (heap_setCell_other _ _ _ _ h1).trans (HBB.out.block q hq)
   ·have hb2 : Below gF w W1 := HBB.out.mono (by omega)
    exact (hb2.setCell (p := ⟨gF, bd, none⟩) (Nat.le_refl _) _).drew
end Go.Proofs.YthjmkmjojlfejaaGreat
