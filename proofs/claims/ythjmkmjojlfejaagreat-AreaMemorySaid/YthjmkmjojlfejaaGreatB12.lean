/- Merged text 12 of the base: Mf6, Mf7, Nh0, Ng. No conditions beyond those stated. -/
import Derived.Test.YthjmkmjojlfejaaGreatB11
import Derived.Test.YthjmkmjojlfejaaGreatB02
namespace Go.Proofs.YthjmkmjojlfejaaGreat
theorem addAt_len0 (l : List Int) (p : Nat) (d : Int) : (addAt l p d).length = l.length := by simp [addAt]
theorem addAt_get0 (l : List Int) (p : Nat) (d : Int) (j : Nat) : (addAt l p d).getD j 0 = l.getD j 0 + if p = j ∧ p < l.length then d else 0 := by
 unfold addAt
 rw [getD_set_at]
 split
 ·rename_i h; rw [h.1]
 ·omega
def needTo (w : List Int) (k : Nat) : List Int := (List.range k).foldl (fun l i => addAt (l.set (i + 1) (w.getD (i + 1) 0)) 0 (-w.getD (i + 1) 0)) (List.replicate 128 0)
theorem needTo_succ (w : List Int) (k : Nat) : needTo w (k + 1) = addAt ((needTo w k).set (k + 1) (w.getD (k + 1) 0)) 0 (-w.getD (k + 1) 0) := by
 unfold needTo; rw [List.range_succ, List.foldl_append]; rfl
theorem need0_eq (N : Nat) (w : List Int) : need0 N w = needTo w (N - 1) := rfl
theorem needTo_len (w : List Int) : ∀ k, (needTo w k).length = 128
 | 0 => by simp [needTo]
 | k + 1 => by rw [needTo_succ, addAt_len0, List.length_set, needTo_len w k]
theorem getD_set0 (l : List Int) (i : Nat) (x : Int) (j : Nat) : (l.set i x).getD j 0 = if i = j ∧ i < l.length then x else l.getD j 0 := getD_set_at l i j x
theorem needTo_get (w : List Int) : ∀ k, k < 128 → ∀ v : Nat, (needTo w k).getD v 0 = if v = 0 then -sumN (fun i => w.getD (i + 1) 0) k else if v ≤ k then w.getD v 0 else 0
 | 0, _, v => by
   have : (needTo w 0).getD v 0 = 0 := by simp only [needTo, List.range_zero, List.foldl_nil, List.getD_eq_getElem?_getD, List.getElem?_replicate]; split <;> rfl
   rw [this]
   by_cases e : v = 0
   ·rw [if_pos e]; simp [sumN]
   ·rw [if_neg e, if_neg (by omega)]
 | k + 1, hk, v => by
   rw [needTo_succ, addAt_get0, getD_set0, List.length_set, needTo_len, needTo_get w k (by omega) v]
   by_cases e : v = 0
   ·subst e
    rw [if_neg (by omega), if_pos rfl, if_pos ⟨rfl, by omega⟩, if_pos rfl]
    simp only [sumN]
    omega
   ·rw [if_neg (show ¬ v = 0 from e), if_neg (show ¬ (0 = v ∧ 0 < 128) by omega), if_neg e]
    by_cases e2 : k + 1 = v
    ·subst e2; rw [if_pos ⟨rfl, hk⟩, if_pos (Nat.le_refl _)]; omega
    ·rw [if_neg (fun q => e2 q.1)]
     by_cases e3 : v ≤ k
     ·rw [if_pos e3, if_pos (by omega)]; omega
     ·rw [if_neg e3, if_neg (by omega)]; omega
def start (N : Nat) (bs : List Bd) (w : List Int) : Fl := ⟨List.replicate bs.length 0, need0 N w⟩
theorem vals_get (N : Nat) (s : Sh) (v : Nat) (hv : v < N) : (valsOf N s).getD v 0 = getI s.c (v : Nat) - getI s.c 0 := by
 unfold valsOf; simp [List.getD_eq_getElem?_getD, hv]
theorem shAll_known {N : Nat} {bs : List Bd} {flow : List Int} (hN : N ≤ 128) (hv : AllValid N bs) : ∀ t, MidA (arcsP bs flow) (shAll N) t → (∀ v : Int, 0 ≤ v → v < N → getK t.k v = true) ∧ t.whole := by
 obtain ⟨HR0, HL0⟩ := shAll_inv (A := arcsP bs flow) hN
 intro t ht
 induction ht with
 | start => exact ⟨fun v a b => (HL0 v v [] ⟨a, b⟩ a b rfl Over.nil (Nat.le_refl _)).1, HR0.whole⟩
 | @step t a ht ha hsh ih =>
   refine ⟨fun v a1 a2 => ?_, Sh.upd_whole ih.2 a⟩
   rw [upd_k ih.2 hN (arcs_valid flow hv _ (mem_resid ha)) a1]
   split
   ·rfl
   ·exact ih.1 v a1 a2
theorem shAll_small {N : Nat} {bs : List Bd} {flow : List Int} (hN : N ≤ 128) (hv : AllValid N bs) (hn : NoNeg (resid (arcsP bs flow))) :
 ∀ s, MidA (arcsP bs flow) (shAll N) s → ∀ v : Int, 0 ≤ v → v < N → -127000000 ≤ getI s.c v ∧ getI s.c v ≤ 128000000 := by
 intro s hs v v0 v1
 exact ((shAll_inv (A := arcsP bs flow) hN).1.mid hN (arcs_valid flow hv) hs).bounds hN (arcs_valid flow hv) hn v0 v1 ((shAll_known hN hv s hs).1 v v0 v1)
theorem valsTo_get (N : Nat) (c : List Int) (k : Nat) (hk : k < N) : ((List.range k).map (fun p => getI c (p : Nat) - getI c 0) ++ List.replicate (N - k) 0).set k (getI c (k : Nat) - getI c 0) = (List.range (k + 1)).map (fun p => getI c (p : Nat) - getI c 0) ++ List.replicate (N - (k + 1)) 0 := by
 rw [List.set_append_right _ _ (by simp), List.length_map, List.length_range, Nat.sub_self, show N - k = (N - (k + 1)) + 1 by omega, List.replicate_succ, List.set_cons_zero, List.range_succ, List.map_append]
 simp
theorem runsB_cases {N : Nat} {bs : List Bd} {g : Nat} {F : Fl} {R : Option Fl} (hN : N ≤ 128) (hv : AllValid N bs) (h : runsB N bs g F = some R) : ∃ g', g = g' + 1 ∧ FlOk N bs F ∧
 ((firstP N F.need = none ∧ R = some F) ∨ ∃ p, firstP N F.need = some p ∧ ((pushP N bs F p = some none ∧ R = none) ∨ ∃ F', pushP N bs F p = some (some F') ∧ runsB N bs g' F' = some R)) := by
 cases g with
 | zero => cases h
 | succ g' =>
   unfold runsB at h
   split at h
   ·cases h
   ·rename_i hb
    refine ⟨g', rfl, flB_ok hN hv (by simpa using hb), ?_⟩
    split at h
    ·rename_i e; exact .inl ⟨e, (Option.some.inj h).symm⟩
    ·rename_i p e
     refine .inr ⟨p, e, ?_⟩
     split at h
     ·cases h
     ·rename_i e2; exact .inl ⟨e2, (Option.some.inj h).symm⟩
     ·rename_i F' e2; exact .inr ⟨F', e2, h⟩
theorem firstP_some {N : Nat} {need : List Int} {q : Nat} (hq : q < N) (h : need.getD q 0 < 0) (hb : ∀ r, r < q → ¬ need.getD r 0 < 0) : firstP N need = some q := by
 unfold firstP
 rw [List.find?_range_eq_some]
 refine ⟨?_, List.mem_range.2 hq, fun j hj => ?_⟩
 ·simp only [decide_eq_true_eq]; exact h
 ·have := hb j hj
  simp only [Bool.not_eq_true', decide_eq_false_iff_not]; exact this
theorem firstP_none {N : Nat} {need : List Int} (hb : ∀ r, r < N → ¬ need.getD r 0 < 0) : firstP N need = none := by
 unfold firstP
 refine List.find?_eq_none.2 fun r hr => ?_
 have := hb r (List.mem_range.1 hr)
 simp only [decide_eq_true_eq]; exact this
structure BestRun (N : Nat) (bs : List Bd) (w : List Int) (f : Nat) (R : Option BestR) : Prop where
 ex : ∃ R0, runsB N bs f (start N bs w) = some R0 ∧ ((R0 = none ∧ R = none) ∨ ∃ F s, R0 = some F ∧ shortGo (arcsP bs F.flow) 1000 (shAll N) = some s ∧ R = some ⟨formP w (valsOf N s), valsOf N s, F.flow⟩)
def bestRunB (N : Nat) (bs : List Bd) (w : List Int) (f : Nat) : Option (Option BestR) :=
 match runsB N bs f (start N bs w) with
 | none => none
 | some none => some none
 | some (some F) =>
   match shortGo (arcsP bs F.flow) 1000 (shAll N) with
   | none => none
   | some s => some (some ⟨formP w (valsOf N s), valsOf N s, F.flow⟩)
theorem bestRunB_ok {N : Nat} {bs : List Bd} {w : List Int} {f : Nat} {R : Option BestR} (h : bestRunB N bs w f = some R) : BestRun N bs w f R := by
 unfold bestRunB at h
 split at h
 ·cases h
 ·rename_i e; exact ⟨none, e, .inl ⟨rfl, (Option.some.inj h).symm⟩⟩
 ·rename_i F e
  split at h
  ·cases h
  ·rename_i s e2; exact ⟨some F, e, .inr ⟨F, s, rfl, e2, (Option.some.inj h).symm⟩⟩
end Go.Proofs.YthjmkmjojlfejaaGreat
namespace Go.Proofs.YthjmkmjojlfejaaGreat
open Go Go.RowKit Go.Shelf
theorem wp_named {P : Program} {c : Code} {Q : Exit → Act → World → Prop} {a : Act} {w : World} (h : ∀ W, W = w → c.wp P Q a W) : c.wp P Q a w := h w rfl
section
variable {P : Program} {ops : Array Oper} {Q : Exit → Act → World → Prop} {md : Region.Mode} {S : World → Prop} {last : Nat}
theorem wpAnyF_two {fuel : Nat} {listed : Array Bool} {a : Act} {w : World} (i j : Nat) {oi oj : Oper} (hi : ops[i]? = some oi) (hj : ops[j]? = some oj) (hr : Region.ready md ops listed = [i, j])
 (h1 : ∀ K' : Act → World → Prop, Shut (∀ a w, (i = last ∨ S w) → wpAnyF P md ops Q S last fuel (listed.setIfInBounds i true) a w → K' a w) → if Region.wanted oi (yielded ops a.tmps) = true then Oper.wp P oi a w K' Q else K' (a.put oi.dst undef) w)
 (h2 : ∀ K' : Act → World → Prop, Shut (∀ a w, (j = last ∨ S w) → wpAnyF P md ops Q S last fuel (listed.setIfInBounds j true) a w → K' a w) → if Region.wanted oj (yielded ops a.tmps) = true then Oper.wp P oj a w K' Q else K' (a.put oj.dst undef) w) :
 wpAnyF P md ops Q S last (fuel + 1) listed a w :=
 ⟨fun h0 => (by rw [hr] at h0; cases h0), fun k hk => by
  rw [hr] at hk
  simp only [List.mem_cons, List.not_mem_nil, or_false] at hk
  rcases hk with rfl | rfl
  ·exact wpOp_step hi fun K' hK => h1 K' fun a w q1 q2 => hK a w ⟨q1, q2⟩
  ·exact wpOp_step hj fun K' hK => h2 K' fun a w q1 q2 => hK a w ⟨q1, q2⟩⟩
end
structure PSt (w W : World) (B bn gF b7 : Nat) (vB : Value) (N n : Nat) (need flow : List Int) (s : Sh) (p : Nat) : Prop where
 net : W.heap[bn]? = some (.cells (netF N vB (.slice (some ⟨gF, 0, none⟩) n n) need) 155 (0,0))
 fl : W.heap[gF]? = some (.cells (rowA flow) 3 (0,0))
 x2 : W.heap[w.heap.size]? = some (.cells #[.pointer (some ⟨bn, 0, none⟩)] 152 (0,0))
 x3 : W.heap[w.heap.size + 1]? = some (.cells #[.int .i64 (p : Int)] 3 (0,0))
 kn : W.heap[w.heap.size + 1 + 1 + 1]? = some (.cells (boolA s.k) 156 (0,0))
 by_ : W.heap[b7]? = some (.cells (arcsA s.by_) 159 (0,0))
 h7 : w.heap.size + 4 ≤ b7
 oth : ∀ q : Nat, q < w.heap.size → q ≠ bn → q ≠ gF → W.heap[q]? = w.heap[q]?
 bl : Below B w W
 sz : b7 < W.heap.size
def PushPost (w : World) (B bn gF : Nat) (vB : Value) (N n : Nat) (F : Fl) (R : Option Fl) (e : Ending) (w' : World) : Prop :=
 e = .returned (.bool R.isSome) ∧ w'.heap[bn]? = some (.cells (netF N vB (.slice (some ⟨gF, 0, none⟩) n n) (R.getD F).need) 155 (0,0)) ∧ w'.heap[gF]? = some (.cells (rowA (R.getD F).flow) 3 (0,0)) ∧
 (∀ q : Nat, q < w.heap.size → q ≠ bn → q ≠ gF → w'.heap[q]? = w.heap[q]?) ∧ Below B w w'
theorem PSt.below {w W W' : World} {B bn gF b7 : Nat} {vB : Value} {N n : Nat} {need flow : List Int} {s : Sh} {p : Nat} (h : PSt w W B bn gF b7 vB N n need flow s p) (hb : Below W.heap.size W W') (hB : B ≤ W.heap.size) : PSt w W' B bn gF b7 vB N n need flow s p := by
 have hk : ∀ (k : Nat) (o : Obj), W.heap[k]? = some o → W'.heap[k]? = some o := fun k o hk => blk_below hb (lt_of_block hk) hk
 have h7 := h.h7
 have hs := h.sz
 exact ⟨hk _ _ h.net, hk _ _ h.fl, hk _ _ h.x2, hk _ _ h.x3, hk _ _ h.kn, hk _ _ h.by_, h.h7, fun q hq h1 h2 => (hb.block q (by omega)).trans (h.oth q hq h1 h2), h.bl.trans (hb.mono hB), Nat.lt_of_lt_of_le h.sz hb.size⟩
theorem PSt.setOther {w W : World} {B bn gF b7 : Nat} {vB : Value} {N n : Nat} {need flow : List Int} {s : Sh} {p : Nat} (h : PSt w W B bn gF b7 vB N n need flow s p) (g o : Nat) (v : Value) (hg : w.heap.size + 4 ≤ g) (h7 : g ≠ b7) (hbn : bn < w.heap.size) (hgF : gF < w.heap.size) (hB : B ≤ w.heap.size) : PSt w (W.setCell ⟨g, o, none⟩ v) B bn gF b7 vB N n need flow s p := by
 have k : ∀ q : Nat, q ≠ g → (W.setCell ⟨g, o, none⟩ v).heap[q]? = W.heap[q]? := fun q hq => heap_setCell_other _ _ _ _ hq
 exact ⟨(k _ (by omega)).trans h.net, (k _ (by omega)).trans h.fl, (k _ (by omega)).trans h.x2, (k _ (by omega)).trans h.x3, (k _ (by omega)).trans h.kn, (k _ (by omega)).trans h.by_, h.h7, fun q hq h1 h2 => (k q (by omega)).trans (h.oth q hq h1 h2), h.bl.setCell (by show B ≤ g; omega) _, by simp; exact h.sz⟩
theorem PSt.drewN {w W : World} {B bn gF b7 : Nat} {vB : Value} {N n : Nat} {need flow : List Int} {s : Sh} {p : Nat} (h : PSt w W B bn gF b7 vB N n need flow s p) (k : Nat) : PSt w (W.drewN k) B bn gF b7 vB N n need flow s p :=
 ⟨h.net, h.fl, h.x2, h.x3, h.kn, h.by_, h.h7, h.oth, h.bl.trans (below_drewN' _ _), h.sz⟩
theorem PSt.post {w W : World} {B bn gF b7 : Nat} {vB : Value} {N n : Nat} {F : Fl} {s : Sh} {p : Nat} (h : PSt w W B bn gF b7 vB N n F.need F.flow s p) : PushPost w B bn gF vB N n F none (.returned (.bool false)) W :=
 ⟨rfl, h.net, h.fl, h.oth, h.bl⟩
theorem getI_nat0 (l : List Int) (n : Nat) : getI l (n : Int) = l.getD n 0 := rfl
theorem ints_row {W : World} {b : Nat} {l : List Int} (h : W.heap[b]? = some (.cells (rowA l) 3 (0,0))) : IntsAt W (some ⟨b, 0, none⟩) l := .inr ⟨b, 0, rfl, lt_of_block h, fun i hi => by
 rw [cell_of_row _ _ _ _ _ _ h, Nat.zero_add, rowA_get hi, List.getD_eq_getElem?_getD, List.getElem?_eq_getElem hi]; rfl⟩
set_option maxRecDepth 100000 in
set_option maxHeartbeats 8000000 in
theorem push_any (w : World) (B bn gF N : Nat) (a : Option Addr) (cap : Nat) (bs : List Bd) (F : Fl) (p : Nat) (R : Option Fl) (hN : N ≤ 128) (hl : bs.length ≤ 4000) (hv : AllValid N bs) (hF : FlOk N bs F) (hp : p < N) (hneed : F.need.getD p 0 < 0)
 (hB : BoundsAt w a bs) (hBn : B ≤ bn) (hBg : B ≤ gF) (hng : bn ≠ gF) (fa : ∀ x, a = some x → 0 < bs.length → x.block ≠ bn ∧ x.block ≠ gF ∧ x.block < w.heap.size)
 (hnet : w.heap[bn]? = some (.cells (netF N (.slice a bs.length cap) (.slice (some ⟨gF, 0, none⟩) bs.length bs.length) F.need) 155 (0,0))) (hfl : w.heap[gF]? = some (.cells (rowA F.flow) 3 (0,0))) (hgo : pushP N bs F p = some R) :
 Calls Tryz.prog 141 #[.pointer (some ⟨bn, 0, none⟩), .int .i64 (p : Int)] w fun e w' => PushPost w B bn gF (.slice a bs.length cap) N bs.length F R e w' := by
 have hbn := lt_of_block hnet
 have hgF := lt_of_block hfl
 have HB := hidE hB
 have HV := hidE hv
 have HF := hidE hF
 have HFA := hidE fa
 have HNET := hidE hnet
 have HFL := hidE hfl
 have HGO := hidE hgo
 have HND := hidE hneed
 clear hB hv hF fa hnet hfl hgo hneed
 go_enter Tryz.func141, Tryz.ntmps141
 have hpd : (p : Int) < 128 := by omega
 have hpd2 : p < 128 := by omega
 go_upto_region 3 with fail
 obtain ⟨W1, hW1⟩ : ∃ W1, W1 = (((w.alloc (.cells #[.pointer (some ⟨bn, 0, none⟩)] 152)).alloc (.cells #[.int .i64 (p : Int)] 3)).alloc (.cells Tryz.zeroCells153 153)).alloc (.cells Tryz.zeroCells156 156) := ⟨_, rfl⟩
 rw [← hW1]
 have bb : Below w.heap.size w W1 := by rw [hW1]; exact ((((Below.refl _ w).alloc (Nat.le_refl _) _).alloc (by simp) _).alloc (by simp; omega) _).alloc (by simp; omega) _
 have z1 : W1.heap.size = w.heap.size + 4 := by rw [hW1]; simp
 have x2 : W1.heap[w.heap.size]? = some (.cells #[.pointer (some ⟨bn, 0, none⟩)] 152 (0,0)) := by rw [hW1]; simp only [heap_alloc_get, World.size_alloc]; rw [if_neg (by omega), if_neg (by omega), if_neg (by omega), if_pos trivial]
 have x3 : W1.heap[w.heap.size + 1]? = some (.cells #[.int .i64 (p : Int)] 3 (0,0)) := by rw [hW1]; simp only [heap_alloc_get, World.size_alloc]; rw [if_neg (by omega), if_neg (by omega), if_pos trivial]
 have x4 : W1.heap[w.heap.size + 1 + 1]? = some (.cells (rowA (rep128 0)) 153 (0,0)) := by rw [hW1, zc153]; simp only [heap_alloc_get, World.size_alloc]; rw [if_neg (by omega), if_pos trivial]
 have x5 : W1.heap[w.heap.size + 1 + 1 + 1]? = some (.cells (boolA repF128) 156 (0,0)) := by rw [hW1, zc120]; simp only [heap_alloc_get, World.size_alloc]; rw [if_pos trivial]
 have c3 : W1.cell? ⟨w.heap.size + 1, 0, none⟩ = some (.int .i64 (p : Int)) := cell_of_one x3
 have c2 : W1.cell? ⟨w.heap.size, 0, none⟩ = some (.pointer (some ⟨bn, 0, none⟩)) := cell_of_one x2
 obtain ⟨kv, c5⟩ : ∃ v, W1.cell? ⟨w.heap.size + 1 + 1 + 1, p, none⟩ = some (.bool v) := ⟨_, by rw [cell_of_row _ _ _ _ _ _ x5, getK_at (by simp [repF128]; omega)]⟩
 have f5 : W1.frozen? ⟨w.heap.size + 1 + 1 + 1, p, none⟩ = false := frozen_of_row _ _ _ _ _ x5
 have HBB := hidE bb
 have X2 := hidE x2
 have X3 := hidE x3
 have X4 := hidE x4
 have X5 := hidE x5
 clear bb hW1 x2 x3 x4 x5
 go_upto_region 4 with fail
 obtain ⟨W2, hW2⟩ : ∃ W2, W2 = W1.setCell ⟨w.heap.size + 1 + 1 + 1, p, none⟩ (.bool true) := ⟨_, rfl⟩
 rw [← hW2]
 have z2 : W2.heap.size = w.heap.size + 4 := by rw [hW2]; simp [z1]
 have BW2 := hidE (show Below w.heap.size w W2 by rw [hW2]; exact HBB.out.setCell (p := ⟨w.heap.size + 1 + 1 + 1, p, none⟩) (by show w.heap.size ≤ w.heap.size + 1 + 1 + 1; omega) _)
 have o2 : ∀ q : Nat, q ≠ w.heap.size + 1 + 1 + 1 → W2.heap[q]? = W1.heap[q]? := fun q hq => by rw [hW2]; exact heap_setCell_other _ _ _ _ hq
 have y2 := (o2 w.heap.size (by omega)).trans X2.out
 have y3 := (o2 (w.heap.size + 1) (by omega)).trans X3.out
 have y4 := (o2 (w.heap.size + 1 + 1) (by omega)).trans X4.out
 have y5 : W2.heap[w.heap.size + 1 + 1 + 1]? = some (.cells (boolA (shOne p).k) 156 (0,0)) := by
  rw [hW2, heap_setCell_same _ _ _ _ _ _ X5.out]
  congr 2
  simp [boolA, boolsV, repF128, shOne, List.map_set]
 have y1 : ∀ q : Nat, q < w.heap.size → W2.heap[q]? = w.heap[q]? := fun q hq => (o2 q (by omega)).trans (HBB.out.block q hq)
 have d2 : W2.cell? ⟨w.heap.size, 0, none⟩ = some (.pointer (some ⟨bn, 0, none⟩)) := cell_of_one y2
 have net2 := (y1 bn hbn).trans HNET.out
 have fl2 := (y1 gF hgF).trans HFL.out
 have e1 : W2.cell? ⟨bn, 1, none⟩ = some (.slice a bs.length cap) := c_e net2 rfl
 have e2 : W2.cell? ⟨bn, 2, none⟩ = some (.slice (some ⟨gF, 0, none⟩) bs.length bs.length) := c_e net2 rfl
 have hB2 : BoundsAt W2 a bs := boundsAt_of HB.out (fun x hx h0 => y1 _ (HFA.out x hx h0).2.2) (by omega)
 have hF2 : IntsAt W2 (some ⟨gF, 0, none⟩) F.flow := ints_row fl2
 have hgo2 := HGO.out
 unfold pushP at hgo2
 cases hsh : shortGo (arcsP bs F.flow) 1000 (shOne p) with
 | none => rw [hsh] at hgo2; cases hgo2
 | some s =>
   rw [hsh] at hgo2
   simp only at hgo2
   have HSH := hidE (shortened_any W2 (w.heap.size + 1 + 1) (w.heap.size + 1 + 1) (w.heap.size + 1 + 1 + 1) bn N a cap bs (some ⟨gF, 0, none⟩) bs.length F.flow 1000 (shOne p) s hN hl HV.out HF.out.fl hB2 hF2 (by omega) (Nat.le_refl _) (by omega) (by omega) (by omega) (by omega) (by omega)
    (fun x hx h0 => by have := (HFA.out x hx h0).2.2; omega) (fun x hx _ => by cases hx; show gF < _; omega) e1 e2 (by rw [y4]; rfl) y5 (shOne_whole p) rfl (shOne_mid hN HV.out HF.out.neg hp) hsh)
   have HGO2 := hidE hgo2
   have HSG := hidE hsh
   have Y1 := hidE y1
   have Y2 := hidE y2
   have Y3 := hidE y3
   have NT := hidE net2
   have FL := hidE fl2
   clear y1 y2 y3 y4 y5 net2 fl2 e1 e2 hB2 hF2 hgo2 hsh hW2 o2 c2 c3 c5 f5 z1
   go_wp2_with (first
    | (go_at_call 142; refine HSH.out.mono ?_; rintro e w1 ⟨rfl, hc1, hk1, hb1, hwh, ho1⟩)
    | (refine wpList_store_row rfl 159 _ _ rfl _ (arcsA s.by_) rfl rfl 159 _ (heap_alloc_new w1 (.cells Tryz.zeroCells159 159)) (by rw [arcsA_size, hwh.2.2]; kernel_rfl) (by rw [arcsA_size, hwh.2.2, arcs_zero, arcsA_size, List.length_replicate]) (arcsA_one _) ?_; rw [World.setRow_alloc_new]))
   obtain ⟨W3, hW3⟩ : ∃ W3, W3 = w1.alloc (.cells (arcsA s.by_) 159) := ⟨_, rfl⟩
   rw [← hW3]
   have hs1 : w.heap.size + 4 ≤ w1.heap.size := by have := hb1.size; omega
   have bb3 : Below w1.heap.size w1 W3 := by rw [hW3]; exact (Below.refl _ _).alloc (Nat.le_refl _) _
   have o3 : ∀ q : Nat, q < w.heap.size + 4 → q ≠ w.heap.size + 1 + 1 → q ≠ w.heap.size + 1 + 1 + 1 → W3.heap[q]? = W2.heap[q]? := fun q hq h1 h2 => (bb3.block q (by omega)).trans (ho1 q (by omega) h1 h2)
   have st3 : PSt w W3 B bn gF w1.heap.size (.slice a bs.length cap) N bs.length F.need F.flow s p := by
    refine ⟨(o3 bn (by omega) (by omega) (by omega)).trans NT.out, (o3 gF (by omega) (by omega) (by omega)).trans FL.out, (o3 _ (by omega) (by omega) (by omega)).trans Y2.out, (o3 _ (by omega) (by omega) (by omega)).trans Y3.out, (bb3.block _ (by omega)).trans hk1, ?_, hs1, fun q hq _ _ => (o3 q (by omega) (by omega) (by omega)).trans (Y1.out q hq), ?_, ?_⟩
    ·rw [hW3]; exact heap_alloc_new _ _
    ·exact (BW2.out.mono (by omega)).trans ((hb1.mono (by omega)).trans (bb3.mono (by omega)))
    ·rw [hW3]; simp
   have l3 : w1.heap.size < W3.heap.size := st3.sz
   have ST3 := hidE st3
   have hnl := hidE HF.out.nl
   clear hc1 hk1 hb1 ho1 hW3 bb3 o3 st3 HSH
   obtain ⟨b7, hb7⟩ : ∃ b7, b7 = w1.heap.size := ⟨_, rfl⟩
   rw [← hb7] at ST3 ⊢
   have c2 : W3.cell? ⟨w.heap.size, 0, none⟩ = some (.pointer (some ⟨bn, 0, none⟩)) := cell_of_one ST3.out.x2
   have c0 : W3.cell? ⟨bn, 0, none⟩ = some (.int .i64 (N : Int)) := c_e ST3.out.net rfl
   have hsz3 : w.heap.size + 4 ≤ W3.heap.size := by have := ST3.out.h7; have := ST3.out.sz; omega
   obtain ⟨q0, hq0⟩ : ∃ q0, idxOf (fun x : Int => decide (0 < x)) (F.need.take N) = q0 := ⟨_, rfl⟩
   have H187 := hidE (fun (W : World) (hb : Below W3.heap.size W3 W) => show Calls Tryz.prog 187 #[.slice (some ⟨bn, 3, none⟩) N 128, .func (.func 188) #[] #[]] W (fun e w' => e = .returned (.int .i64 q0) ∧ Below W.heap.size W w') by
    have hlen : (F.need.take N).length = N := by rw [List.length_take, hnl.out]; omega
    have h1 := indexFuncInts_any W (some ⟨bn, 3, none⟩) 128 (F.need.take N) 188 #[] (fun x => decide (0 < x)) (by rw [hlen]; omega) (.inr ⟨bn, 3, rfl, by have := hb.size; omega, fun i hi => by
     rw [hlen] at hi
     rw [cell_of_row _ _ _ _ _ _ (blk_below hb (lt_of_block ST3.out.net) ST3.out.net), netF_get (by rw [hnl.out]; omega), List.getElem_take, List.getD_eq_getElem?_getD, List.getElem?_eq_getElem (by rw [hnl.out]; omega)]; rfl⟩)
     (fun k _ V _ => needs_any _ V) (enters_of Tryz.func188 (by kernel_rfl) rfl)
    rw [hlen, hq0] at h1
    exact h1)
   have HQ0 := hidE hq0
   have N1 : (N : Int) ≤ 128 := by omega
   have N0 : (0 : Int) ≤ (N : Int) := by omega
   clear hq0 hb7
   simp only [Act.put]
   go_cut [8] (fun s8 wx => ∃ b8 : Nat, s8 = .pointer (some ⟨b8, 0, none⟩) ∧ Hid (wx.heap[b8]? = some (.cells #[.int .i64 q0] 3 (0,0))) ∧ Hid (W3.heap.size ≤ b8) ∧ Hid (Below W3.heap.size W3 wx))
   case first =>
    refine wp_region_F (S := fun V => V.cell? ⟨w.heap.size, 0, none⟩ = some (.pointer (some ⟨bn, 0, none⟩)) ∧ V.cell? ⟨bn, 0, none⟩ = some (.int .i64 (N : Int))) (last := 11) (by kernel_rfl) ?_
    have hS0 : W3.drew.cell? ⟨w.heap.size, 0, none⟩ = some (.pointer (some ⟨bn, 0, none⟩)) ∧ W3.drew.cell? ⟨bn, 0, none⟩ = some (.int .i64 (N : Int)) := ⟨c2, c0⟩
    refine t_f 0 15 (.pointer (some ⟨bn, 0, none⟩)) rfl (by kernel_rfl) rfl (fun _ _ _ h => h) (fun V hV => ?_) hS0 ?_
    ·obtain ⟨q0, q1⟩ := hV
     simp [go_sem, execOp, q0]
    try simp only [s_a, s_b, s_c]
    refine t_f 1 16 (.pointer (some ⟨bn, 0, none⟩)) rfl (by kernel_rfl) rfl (fun _ _ _ h => h) (fun V hV => ?_) hS0 ?_
    ·obtain ⟨q0, q1⟩ := hV
     simp [go_sem, execOp]
    try simp only [s_a, s_b, s_c]
    refine t_f 2 17 (.pointer (some ⟨bn, 3, none⟩)) rfl (by kernel_rfl) rfl (fun _ _ _ h => h) (fun V hV => ?_) hS0 ?_
    ·obtain ⟨q0, q1⟩ := hV
     simp [go_sem, execOp]
    try simp only [s_a, s_b, s_c]
    refine t_f 3 18 (.pointer (some ⟨bn, 0, none⟩)) rfl (by kernel_rfl) rfl (fun _ _ _ h => h) (fun V hV => ?_) hS0 ?_
    ·obtain ⟨q0, q1⟩ := hV
     simp [go_sem, execOp, q0]
    try simp only [s_a, s_b, s_c]
    refine t_f 4 19 (.pointer (some ⟨bn, 0, none⟩)) rfl (by kernel_rfl) rfl (fun _ _ _ h => h) (fun V hV => ?_) hS0 ?_
    ·obtain ⟨q0, q1⟩ := hV
     simp [go_sem, execOp]
    try simp only [s_a, s_b, s_c]
    refine t_f 5 20 (.pointer (some ⟨bn, 0, none⟩)) rfl (by kernel_rfl) rfl (fun _ _ _ h => h) (fun V hV => ?_) hS0 ?_
    ·obtain ⟨q0, q1⟩ := hV
     simp [go_sem, execOp]
    try simp only [s_a, s_b, s_c]
    refine t_f 6 21 (.pointer (some ⟨bn, 0, none⟩)) rfl (by kernel_rfl) rfl (fun _ _ _ h => h) (fun V hV => ?_) hS0 ?_
    ·obtain ⟨q0, q1⟩ := hV
     simp [go_sem, execOp]
    try simp only [s_a, s_b, s_c]
    refine t_f 7 22 (.int .i64 (N : Int)) rfl (by kernel_rfl) rfl (fun _ _ _ h => h) (fun V hV => ?_) hS0 ?_
    ·obtain ⟨q0, q1⟩ := hV
     simp [go_sem, execOp, q1]
    try simp only [s_a, s_b, s_c]
    refine t_f 8 23 (.slice (some ⟨bn, 3, none⟩) N 128) rfl (by kernel_rfl) rfl (fun _ _ _ h => h) (fun V hV => ?_) hS0 ?_
    ·obtain ⟨q0, q1⟩ := hV
     simp [go_sem, execOp, N0, N1]
    try simp only [s_a, s_b, s_c]
    have lS : w.heap.size < W3.heap.size := by omega
    have lbn : bn < W3.heap.size := by omega
    refine wpAnyF_two 9 10 rfl rfl (by kernel_rfl) (fun K hK => ?_) (fun K hK => ?_)
    ·go_simp
     go_at_call 187
     refine (H187.out _ ((Below.refl _ _).drew)).mono ?_
     rintro e w3 ⟨rfl, hb⟩
     go_wp2_with fail
     have hbw : Below W3.heap.size W3 w3 := ((Below.refl W3.heap.size W3).drew).trans hb
     refine hK.out _ _ (.inr ⟨(hbw.cell (p := ⟨w.heap.size, 0, none⟩) lS).trans c2, (hbw.cell (p := ⟨bn, 0, none⟩) lbn).trans c0⟩) ?_
     clear hK K
     try simp only [Act.put, s_a, s_b, s_c]
     have HBW := hidE hbw
     have k2 := (hbw.cell (p := ⟨w.heap.size, 0, none⟩) lS).trans c2
     have k0 := (hbw.cell (p := ⟨bn, 0, none⟩) lbn).trans c0
     have lS' : w.heap.size < w3.heap.size := Nat.lt_of_lt_of_le lS hbw.size
     have lbn' : bn < w3.heap.size := Nat.lt_of_lt_of_le lbn hbw.size
     clear hb hbw
     refine wpAnyF_step 10 rfl (by kernel_rfl) (fun K hK => ?_)
     go_simp
     have bx : Below w3.heap.size w3 (w3.alloc (.cells #[.int .i64 0] 3)) := (Below.refl _ _).alloc (Nat.le_refl _) _
     refine hK.out _ _ (.inr ⟨(bx.cell (p := ⟨w.heap.size, 0, none⟩) lS').trans k2, (bx.cell (p := ⟨bn, 0, none⟩) lbn').trans k0⟩) ?_
     clear hK K bx
     try simp only [Act.put, s_a, s_b, s_c]
     refine wpAnyF_step 11 rfl (by kernel_rfl) (fun K hK => ?_)
     go_simp
     refine hK.out _ _ (.inl rfl) ?_
     clear hK K
     refine wpAnyF_done (by kernel_rfl) ?_ _
     go_wp2_with fail
     go_meet
     exact ⟨_, rfl, hidE (heap_alloc_new _ _), hidE HBW.out.size, hidE (HBW.out.alloc HBW.out.size _)⟩
    ·go_simp
     obtain ⟨Wa, hWa⟩ : ∃ Wa, Wa = (W3.alloc (.cells #[.int .i64 0] 3)).drew := ⟨_, rfl⟩
     have bx : Below W3.heap.size W3 Wa := by rw [hWa]; exact ((Below.refl _ _).alloc (Nat.le_refl _) _).drew
     have xa : Wa.heap[W3.heap.size]? = some (.cells #[.int .i64 0] 3 (0,0)) := by rw [hWa]; exact heap_alloc_new _ _
     rw [← hWa]
     clear hWa
     refine hK.out _ _ (.inr ⟨(bx.cell (p := ⟨w.heap.size, 0, none⟩) lS).trans c2, (bx.cell (p := ⟨bn, 0, none⟩) lbn).trans c0⟩) ?_
     clear hK K
     try simp only [Act.put, s_a, s_b, s_c]
     refine wpAnyF_step 9 rfl (by kernel_rfl) (fun K hK => ?_)
     go_simp
     go_at_call 187
     refine (H187.out _ bx).mono ?_
     rintro e w3 ⟨rfl, hb⟩
     go_wp2_with fail
     have xb := blk_below hb (lt_of_block xa) xa
     have hbw : Below W3.heap.size W3 w3 := bx.trans (hb.mono bx.size)
     refine hK.out _ _ (.inr ⟨(hbw.cell (p := ⟨w.heap.size, 0, none⟩) lS).trans c2, (hbw.cell (p := ⟨bn, 0, none⟩) lbn).trans c0⟩) ?_
     clear hK K
     try simp only [Act.put, s_a, s_b, s_c]
     have k8 : w3.cell? ⟨W3.heap.size, 0, none⟩ = some (.int .i64 0) := cell_of_one xb
     have g8 : w3.frozen? ⟨W3.heap.size, 0, none⟩ = false := frozen_of_row _ _ _ _ _ xb
     have XB := hidE xb
     have HBW := hidE hbw
     clear xa xb hb hbw bx
     refine wpAnyF_step 11 rfl (by kernel_rfl) (fun K hK => ?_)
     go_simp
     refine hK.out _ _ (.inl rfl) ?_
     clear hK K
     refine wpAnyF_done (by kernel_rfl) ?_ _
     go_wp2_with fail
     go_meet
     exact ⟨_, rfl, hidE (heap_setCell_same _ _ _ _ _ _ XB.out), hidE (Nat.le_refl _), hidE (HBW.out.setCell (p := ⟨W3.heap.size, 0, none⟩) (Nat.le_refl _) _)⟩
   case rest =>
    obtain ⟨b8, rfl, hx8, hle8, hbc⟩ := hcut
    obtain ⟨W4, rfl⟩ : ∃ x : World, x = wc := ⟨wc, rfl⟩
    have st4 := ST3.out.below hbc.out (by omega)
    have h7 := ST3.out.h7
    have hs7 := ST3.out.sz
    have l8 : w.heap.size + 4 ≤ b8 := by have := hle8.out; omega
    have n8 : b8 ≠ b7 := by have := hle8.out; omega
    have hq0 := HQ0.out
    have hqcase : (q0 < 0 ∧ ∀ r : Nat, r < N → wants s F.need r = false) ∨ (0 ≤ q0 ∧ q0 ≤ N ∧ ∀ r : Nat, (r : Int) < q0 → wants s F.need r = false) := by
     have hlen : (F.need.take N).length = N := by rw [List.length_take, hnl.out]; omega
     have hge : ∀ r : Nat, r < N → (F.need.take N).getD r 0 = F.need.getD r 0 := fun r hr => by
      simp only [List.getD_eq_getElem?_getD, List.getElem?_take_of_lt hr]
     by_cases hneg : q0 < 0
     ·refine .inl ⟨hneg, fun r hr => ?_⟩
      have := idxOf_before (p := fun x : Int => decide (0 < x)) (d := 0) (F.need.take N) r (by omega) (.inl (by rw [hq0]; exact hneg))
      rw [hge r hr] at this
      unfold wants
      rw [getI_nat0, this, Bool.and_false]
     ·refine .inr ⟨by omega, ?_, fun r hr => ?_⟩
      ·have := idxOf_lt (p := fun x : Int => decide (0 < x)) (F.need.take N); rw [hq0, hlen] at this; omega
      ·have hlt := idxOf_lt (p := fun x : Int => decide (0 < x)) (F.need.take N)
       rw [hq0, hlen] at hlt
       have := idxOf_before (p := fun x : Int => decide (0 < x)) (d := 0) (F.need.take N) r (by omega) (.inr (by rw [hq0]; exact hr))
       rw [hge r (by omega)] at this
       unfold wants
       rw [getI_nat0, this, Bool.and_false]
    have HQC := hidE hqcase
    have ST4 := hidE st4
    clear hqcase hq0 st4 hle8 hbc c2 c0 hsz3 H187 hs7
    go_wp2_with fail
    go_loopg [] (N + 1) (fun gg wr => ∃ q : Int, Hid (wr.heap[b8]? = some (.cells #[.int .i64 q] 3 (0,0))) ∧ Hid (PSt w wr B bn gF b7 (.slice a bs.length cap) N bs.length F.need F.flow s p) ∧ ((q < 0 ∧ Hid (∀ r : Nat, r < N → wants s F.need r = false)) ∨ (0 ≤ q ∧ q ≤ N ∧ (N : Int) - q < gg ∧ Hid (∀ r : Nat, (r : Int) < q → wants s F.need r = false))))
    case atStart => exact ⟨q0, hx8, ST4, HQC.out.imp (fun h => ⟨h.1, hidE h.2⟩) (fun h => ⟨h.1, h.2.1, by omega, hidE h.2.2⟩)⟩
    case round =>
     obtain ⟨q, hw8, hst, hcase⟩ := hrel
     have k8 : wr.cell? ⟨b8, 0, none⟩ = some (.int .i64 q) := cell_of_one hw8.out
     have g8 : wr.frozen? ⟨b8, 0, none⟩ = false := frozen_of_row _ _ _ _ _ hw8.out
     have k2 : wr.cell? ⟨w.heap.size, 0, none⟩ = some (.pointer (some ⟨bn, 0, none⟩)) := cell_of_one hst.out.x2
     have kN : wr.cell? ⟨bn, 0, none⟩ = some (.int .i64 (N : Int)) := c_e hst.out.net rfl
     rcases hcase with ⟨hneg, hall⟩ | ⟨hge, hle, hgg, hall⟩
     ·have d1 : decide (0 ≤ q) = false := by simp; omega
      have d2 : decide (q < 0) = true := by simp; omega
      have hR : R = none := by
       have := HGO2.out
       rw [firstQ_none hall.out] at this
       simpa using this.symm
      subst hR
      go_upto_region 6 with fail
      go_quiet (fail)
      go_wp2_with fail
      go_quiet (fail)
      go_wp2_with fail
      go_ret
      exact ((hst.out.drewN _).drewN _).post
     ·obtain ⟨q, rfl⟩ := Int.eq_ofNat_of_zero_le hge
      have d1 : decide (0 ≤ (q : Int)) = true := by simp
      have d2 : decide ((q : Int) < 0) = false := by simp
      by_cases hlt : q < N
      ·have d3 : decide ((q : Int) < (N : Int)) = true := by simp; omega
       have d3' : decide (q < N) = true := by simp; omega
       have d4 : decide ((N : Int) ≤ (q : Int)) = false := by simp; omega
       have d4' : decide (N ≤ q) = false := by simp; omega
       have i1 : (q : Int) < 128 := by omega
       have i2 : q < 128 := by omega
       have kq : wr.cell? ⟨w.heap.size + 1 + 1 + 1, q, none⟩ = some (.bool (getK s.k (q : Int))) := by rw [cell_of_row _ _ _ _ _ _ hst.out.kn, getK_at (by have := hwh.2.1; omega)]
       have nq0 : wr.cell? ⟨bn, 3 + q, none⟩ = some (.int .i64 (F.need.getD q 0)) := by rw [cell_of_row _ _ _ _ _ _ hst.out.net, netF_get (by rw [hnl.out]; omega)]
       have wq1 : IntKind.i64.wrap ((q : Int) + 1) = (q : Int) + 1 := IntWalk.i64_in _ (by omega)
       obtain ⟨z, hz⟩ : ∃ z, F.need.getD q 0 = z := ⟨_, rfl⟩
       rw [hz] at nq0
       have HZ := hidE hz
       clear hz
       have STEP : Hid (wants s F.need q = false → ∀ (nn : Nat), ∃ q' : Int, Hid (((wr.drewN nn).setCell ⟨b8, 0, none⟩ (.int .i64 ((q : Int) + 1))).heap[b8]? = some (.cells #[.int .i64 q'] 3 (0,0))) ∧ Hid (PSt w ((wr.drewN nn).setCell ⟨b8, 0, none⟩ (.int .i64 ((q : Int) + 1))) B bn gF b7 (.slice a bs.length cap) N bs.length F.need F.flow s p) ∧ ((q' < 0 ∧ Hid (∀ r : Nat, r < N → wants s F.need r = false)) ∨ (0 ≤ q' ∧ q' ≤ N ∧ (N : Int) - q' < (N - q : Nat) ∧ Hid (∀ r : Nat, (r : Int) < q' → wants s F.need r = false)))) := hidE (fun hw nn => by
        refine ⟨(q : Int) + 1, hidE ?_, hidE ((hst.out.drewN nn).setOther b8 0 _ l8 n8 hbn hgF (by omega)), .inr ⟨by omega, by omega, by omega, hidE fun r hr => ?_⟩⟩
        ·exact heap_setCell_same (wr.drewN nn) _ _ _ _ _ hw8.out
        ·by_cases e : r = q
         ·subst e; exact hw
         ·exact hall.out r (by omega))
       cases hkb : getK s.k (q : Int) with
       | false =>
         rw [hkb] at kq
         have HW := hidE (show wants s F.need q = false by unfold wants; rw [hkb, Bool.false_and])
         clear hkb
         go_upto_region 6 with fail
         go_quiet (fail)
         go_wp2_with fail
         go_roundg (N - q)
         case rel => exact STEP.out HW.out _
         case measure => omega
       | true =>
         rw [hkb] at kq
         have HK := hidE hkb
         clear hkb
         by_cases hz0 : z ≤ 0
         ·have d5 : decide (z ≤ 0) = true := by simpa using hz0
          have HW := hidE (show wants s F.need q = false by unfold wants; rw [getI_nat0, HZ.out, HK.out]; simp; omega)
          go_upto_region 6 with fail
          go_quiet (fail)
          go_wp2_with fail
          go_roundg (N - q)
          case rel => exact STEP.out HW.out _
          case measure => omega
         ·have d5 : decide (z ≤ 0) = false := by simpa using hz0
          have HFQ := hidE (firstQ_some hlt (show wants s F.need q = true by unfold wants; rw [getI_nat0, HZ.out, HK.out]; simp; omega) (fun r hr => hall.out r (by omega)))
          clear STEP wq1
          go_upto_region 6 with fail
          go_quiet (fail)
          go_wp2_with fail
          go_quiet (fail)
          go_wp2_with fail
          refine wp_named ?_
          intro W5 hW5
          have st5 : PSt w W5 B bn gF b7 (.slice a bs.length cap) N bs.length F.need F.flow s p := by rw [hW5]; exact hst.out.drewN _
          have h58 : W5.heap[b8]? = some (.cells #[.int .i64 (q : Int)] 3 (0,0)) := by rw [hW5]; exact hw8.out
          clear hW5 k8 g8 k2 kN kq nq0 hw8 hst
          have a0 : W5.cell? ⟨w.heap.size, 0, none⟩ = some (.pointer (some ⟨bn, 0, none⟩)) := cell_of_one st5.x2
          have a1 : W5.cell? ⟨w.heap.size + 1, 0, none⟩ = some (.int .i64 (p : Int)) := cell_of_one st5.x3
          have a2 : W5.cell? ⟨b8, 0, none⟩ = some (.int .i64 (q : Int)) := cell_of_one h58
          obtain ⟨y, hy⟩ : ∃ y, F.need.getD p 0 = y := ⟨_, rfl⟩
          have a3 : W5.cell? ⟨bn, 3 + p, none⟩ = some (.int .i64 y) := by rw [cell_of_row _ _ _ _ _ _ st5.net, netF_get (by rw [hnl.out]; omega), hy]
          have a4 : W5.cell? ⟨bn, 3 + q, none⟩ = some (.int .i64 z) := by rw [cell_of_row _ _ _ _ _ _ st5.net, netF_get (by rw [hnl.out]; omega), HZ.out]
          have hynb : -1000000000 ≤ y ∧ y ≤ 1000000000 := HF.out.nb y (by rw [← hy, List.getD_eq_getElem?_getD, List.getElem?_eq_getElem (by rw [hnl.out]; omega)]; exact List.getElem_mem _)
          have hznb : -1000000000 ≤ z ∧ z ≤ 1000000000 := HF.out.nb z (by rw [← HZ.out, List.getD_eq_getElem?_getD, List.getElem?_eq_getElem (by rw [hnl.out]; omega)]; exact List.getElem_mem _)
          have hyneg : y < 0 := by rw [← hy]; exact HND.out
          have wneg : IntKind.i64.wrap (-y) = -y := IntWalk.i64_in _ (by omega)
          have HY := hidE hy
          clear hy
          have j1 : (p : Int) < 128 := by omega
          obtain ⟨m0, hm0⟩ : ∃ m0, min (-y) z = m0 := ⟨_, rfl⟩
          have hm0b : 1 ≤ m0 ∧ m0 ≤ 1000000000 ∧ m0 ≤ -y ∧ m0 ≤ z := by omega
          have HM0 := hidE hm0
          have ST5 := hidE st5
          have H58 := hidE h58
          have hs5 := st5.sz
          have l8' : b8 < W5.heap.size := lt_of_block h58
          clear st5 h58
          refine wp_region_F (S := fun V => V.cell? ⟨w.heap.size, 0, none⟩ = some (.pointer (some ⟨bn, 0, none⟩)) ∧ V.cell? ⟨w.heap.size + 1, 0, none⟩ = some (.int .i64 (p : Int)) ∧ V.cell? ⟨b8, 0, none⟩ = some (.int .i64 (q : Int)) ∧ V.cell? ⟨bn, 3 + p, none⟩ = some (.int .i64 y) ∧ V.cell? ⟨bn, 3 + q, none⟩ = some (.int .i64 z)) (last := 15) (by kernel_rfl) ?_
          have hS0 : W5.drew.cell? ⟨w.heap.size, 0, none⟩ = some (.pointer (some ⟨bn, 0, none⟩)) ∧ W5.drew.cell? ⟨w.heap.size + 1, 0, none⟩ = some (.int .i64 (p : Int)) ∧ W5.drew.cell? ⟨b8, 0, none⟩ = some (.int .i64 (q : Int)) ∧ W5.drew.cell? ⟨bn, 3 + p, none⟩ = some (.int .i64 y) ∧ W5.drew.cell? ⟨bn, 3 + q, none⟩ = some (.int .i64 z) := ⟨a0, a1, a2, a3, a4⟩
          refine t_f 0 65 (.pointer (some ⟨bn, 0, none⟩)) rfl (by kernel_rfl) rfl (fun _ _ _ h => h) (fun V hV => ?_) hS0 ?_
          ·obtain ⟨a0, a1, a2, a3, a4⟩ := hV
           simp [go_sem, execOp, a0]
          try simp only [s_a, s_b, s_c]
          refine t_f 1 66 (.int .i64 (p : Int)) rfl (by kernel_rfl) rfl (fun _ _ _ h => h) (fun V hV => ?_) hS0 ?_
          ·obtain ⟨a0, a1, a2, a3, a4⟩ := hV
           simp [go_sem, execOp, a1]
          try simp only [s_a, s_b, s_c]
          refine t_f 2 67 (.pointer (some ⟨bn, 0, none⟩)) rfl (by kernel_rfl) rfl (fun _ _ _ h => h) (fun V hV => ?_) hS0 ?_
          ·obtain ⟨a0, a1, a2, a3, a4⟩ := hV
           simp [go_sem, execOp]
          try simp only [s_a, s_b, s_c]
          refine t_f 3 68 (.pointer (some ⟨bn, 3, none⟩)) rfl (by kernel_rfl) rfl (fun _ _ _ h => h) (fun V hV => ?_) hS0 ?_
          ·obtain ⟨a0, a1, a2, a3, a4⟩ := hV
           simp [go_sem, execOp]
          try simp only [s_a, s_b, s_c]
          refine t_f 4 69 (.pointer (some ⟨bn, 3 + p, none⟩)) rfl (by kernel_rfl) rfl (fun _ _ _ h => h) (fun V hV => ?_) hS0 ?_
          ·obtain ⟨a0, a1, a2, a3, a4⟩ := hV
           simp [go_sem, execOp, j1]
          try simp only [s_a, s_b, s_c]
          refine t_f 5 70 (.int .i64 y) rfl (by kernel_rfl) rfl (fun _ _ _ h => h) (fun V hV => ?_) hS0 ?_
          ·obtain ⟨a0, a1, a2, a3, a4⟩ := hV
           simp [go_sem, execOp, a3]
          try simp only [s_a, s_b, s_c]
          refine t_f 6 71 (.int .i64 (-y)) rfl (by kernel_rfl) rfl (fun _ _ _ h => h) (fun V hV => ?_) hS0 ?_
          ·obtain ⟨a0, a1, a2, a3, a4⟩ := hV
           simp [go_sem, execOp, wneg]
          try simp only [s_a, s_b, s_c]
          refine t_f 7 72 (.pointer (some ⟨bn, 0, none⟩)) rfl (by kernel_rfl) rfl (fun _ _ _ h => h) (fun V hV => ?_) hS0 ?_
          ·obtain ⟨a0, a1, a2, a3, a4⟩ := hV
           simp [go_sem, execOp, a0]
          try simp only [s_a, s_b, s_c]
          refine t_f 8 73 (.int .i64 (q : Int)) rfl (by kernel_rfl) rfl (fun _ _ _ h => h) (fun V hV => ?_) hS0 ?_
          ·obtain ⟨a0, a1, a2, a3, a4⟩ := hV
           simp [go_sem, execOp, a2]
          try simp only [s_a, s_b, s_c]
          refine t_f 9 74 (.pointer (some ⟨bn, 0, none⟩)) rfl (by kernel_rfl) rfl (fun _ _ _ h => h) (fun V hV => ?_) hS0 ?_
          ·obtain ⟨a0, a1, a2, a3, a4⟩ := hV
           simp [go_sem, execOp]
          try simp only [s_a, s_b, s_c]
          refine t_f 10 75 (.pointer (some ⟨bn, 3, none⟩)) rfl (by kernel_rfl) rfl (fun _ _ _ h => h) (fun V hV => ?_) hS0 ?_
          ·obtain ⟨a0, a1, a2, a3, a4⟩ := hV
           simp [go_sem, execOp]
          try simp only [s_a, s_b, s_c]
          refine t_f 11 76 (.pointer (some ⟨bn, 3 + q, none⟩)) rfl (by kernel_rfl) rfl (fun _ _ _ h => h) (fun V hV => ?_) hS0 ?_
          ·obtain ⟨a0, a1, a2, a3, a4⟩ := hV
           simp [go_sem, execOp, i1]
          try simp only [s_a, s_b, s_c]
          refine t_f 12 77 (.int .i64 z) rfl (by kernel_rfl) rfl (fun _ _ _ h => h) (fun V hV => ?_) hS0 ?_
          ·obtain ⟨a0, a1, a2, a3, a4⟩ := hV
           simp [go_sem, execOp, a4]
          try simp only [s_a, s_b, s_c]
          refine t_f 13 78 (.int .i64 m0) rfl (by kernel_rfl) rfl (fun _ _ _ h => h) (fun V hV => ?_) hS0 ?_
          ·obtain ⟨a0, a1, a2, a3, a4⟩ := hV
           simp [go_sem, execOp, hm0]
          try simp only [s_a, s_b, s_c]
          refine wpAnyF_step 14 rfl (by kernel_rfl) (fun K hK => ?_)
          go_simp
          have bx : Below W5.heap.size W5 (W5.alloc (.cells #[.int .i64 0] 3)).drew := ((Below.refl _ _).alloc (Nat.le_refl _) _).drew
          refine hK.out _ _ (.inr ⟨(bx.cell (p := ⟨w.heap.size, 0, none⟩) (by show w.heap.size < _; have := ST5.out.h7; omega)).trans a0, (bx.cell (p := ⟨w.heap.size + 1, 0, none⟩) (by show w.heap.size + 1 < _; have := ST5.out.h7; omega)).trans a1, (bx.cell (p := ⟨b8, 0, none⟩) l8').trans a2, (bx.cell (p := ⟨bn, 3 + p, none⟩) (by show bn < _; have := ST5.out.h7; omega)).trans a3, (bx.cell (p := ⟨bn, 3 + q, none⟩) (by show bn < _; have := ST5.out.h7; omega)).trans a4⟩) ?_
          clear hK K bx
          try simp only [Act.put, s_a, s_b, s_c]
          refine wpAnyF_step 15 rfl (by kernel_rfl) (fun K hK => ?_)
          go_simp
          refine hK.out _ _ (.inl rfl) ?_
          clear hK K
          refine wpAnyF_done (by kernel_rfl) ?_ _
          go_upto_region 12 with fail
          refine wp_named ?_
          intro W6 hW6
          have bb6 : Below W5.heap.size W5 W6 := by rw [hW6]; exact ((Below.refl _ _).alloc (Nat.le_refl _) _).drew
          have x10 : W6.heap[W5.heap.size]? = some (.cells #[.int .i64 m0] 3 (0,0)) := by rw [hW6]; exact heap_alloc_new _ _
          have st6 := ST5.out.below bb6 (by have := ST5.out.h7; omega)
          have h68 := blk_below bb6 l8' H58.out
          have hs6 : W5.heap.size < W6.heap.size := lt_of_block x10
          have hS5 : w.heap.size + 4 ≤ W5.heap.size := by have := ST5.out.h7; omega
          have hgo3 := HGO2.out
          rw [HFQ.out] at hgo3
          simp only at hgo3
          cases hL : wayGo s.by_ p 1000 q with
          | none => rw [hL] at hgo3; cases hgo3
          | some L =>
            rw [hL] at hgo3
            simp only [getI_nat0, HY.out, HZ.out, HM0.out, Option.some.injEq] at hgo3
            obtain ⟨pw1, pw2⟩ := push_way hN HV.out HF.out.neg hp hlt HSG.out HK.out hL
            obtain ⟨m, hm⟩ : ∃ m, muchP F.flow L m0 = m := ⟨_, rfl⟩
            rw [hm] at hgo3
            have hmle := (much_le F.flow L m0).1
            have hmpos := much_pos F.flow L m0 (by omega) (fun a ha hb => arcs_back (pw1 a ha) hb)
            rw [hm] at hmle hmpos
            have hbd : ∀ a ∈ L, a.bd < bs.length := fun a ha => (arcs_at (pw1 a ha)).1
            have hsrc : ∀ a ∈ L, 0 ≤ a.src ∧ a.src < 128 := fun a ha => by have := arcs_valid F.flow HV.out _ (mem_resid (pw1 a ha)); obtain ⟨v1, v2, _⟩ := this; simp only [Arc.bnd] at v1 v2; omega
            have hflb : ∀ j : Nat, 0 ≤ F.flow.getD j 0 ∧ F.flow.getD j 0 ≤ 1000000000000 := fun j => by
             by_cases hj : j < F.flow.length
             ·exact HF.out.fb _ (by rw [List.getD_eq_getElem?_getD, List.getElem?_eq_getElem hj]; exact List.getElem_mem _)
             ·rw [List.getD_eq_getElem?_getD, List.getElem?_eq_none (by omega)]; simp
            have HFLEN := HF.out.fl
            have H1 := hidE (way_any W6 b8 (w.heap.size + 1) b7 (q : Int) (p : Int) s.by_ 1000 L 190 #[.pointer (some ⟨W5.heap.size, 0, none⟩), .pointer (some ⟨w.heap.size, 0, none⟩)]
             (fun pre W => W.heap[W5.heap.size]? = some (.cells #[.int .i64 (muchP F.flow pre m0)] 3 (0,0)) ∧ (∀ x : Nat, x < W6.heap.size → x ≠ W5.heap.size → W.heap[x]? = W6.heap[x]?) ∧ Below W5.heap.size W6 W) hL hwh.2.2 (by omega) (by omega) hsrc (cell_of_one h68)
             (fun pre W h => ⟨cell_of_one ((h.2.1 _ (by omega) (by omega)).trans st6.x3), (h.2.1 _ (by have := st6.sz; omega) (by omega)).trans st6.by_⟩) ⟨x10, fun _ _ _ => rfl, Below.refl _ _⟩
             (fun pre a W h hp2 => by
              obtain ⟨i1, i2, i3⟩ := h
              obtain ⟨post, e⟩ := hp2
              have ham : a ∈ L := by rw [e]; simp
              have hsz := i3.size
              have n2 : W.cell? ⟨bn, 2, none⟩ = some (.slice (some ⟨gF, 0, none⟩) F.flow.length bs.length) := by rw [cell_of_row _ _ _ _ _ _ ((i2 bn (by omega) (by omega)).trans st6.net), HFLEN]; rfl
              refine (less_any W a W5.heap.size w.heap.size bn gF bs.length F.flow _ i1 ((i2 _ (by omega) (by omega)).trans st6.x2) n2 ((i2 gF (by omega) (by omega)).trans st6.fl) (by omega) (by rw [HFLEN]; exact hbd a ham) (by omega)).mono ?_
              rintro e w' ⟨rfl, r1, r2, r3⟩
              refine ⟨rfl, ?_, fun x hx hne => (r2 x (by omega) hne).trans (i2 x hx hne), i3.trans r3⟩
              rw [show muchP F.flow (pre ++ [a]) m0 = less1 F.flow (muchP F.flow pre m0) a from by unfold muchP; rw [List.foldl_append]; rfl]
              exact r1) (enters_of Tryz.func190 (by kernel_rfl) rfl))
            have ST6 := hidE st6
            have H68 := hidE h68
            have HGO3 := hidE hgo3
            have HM := hidE hm
            have HL9 := hidE hL
            have PW2 := hidE pw2
            have HBD := hidE hbd
            have HSRC := hidE hsrc
            have HFB := hidE hflb
            clear hW6 x10 st6 h68 hgo3 hm hL pw2 pw1 hbd hsrc hflb a0 a1 a2 a3 a4 hS0 hm0 bb6 HFLEN
            go_wp2_with fail
            refine H1.out.mono ?_
            rintro e W7 ⟨rfl, hi7, ho7, hb7⟩
            rw [HM.out] at hi7
            have hs7 := hb7.size
            have st7 : PSt w W7 B bn gF b7 (.slice a bs.length cap) N bs.length F.need F.flow s p := by
             have s6 := ST6.out
             have z7 := s6.sz
             have y7 := s6.h7
             exact ⟨(ho7 _ (by omega) (by omega)).trans s6.net, (ho7 _ (by omega) (by omega)).trans s6.fl, (ho7 _ (by omega) (by omega)).trans s6.x2, (ho7 _ (by omega) (by omega)).trans s6.x3, (ho7 _ (by omega) (by omega)).trans s6.kn, (ho7 _ (by omega) (by omega)).trans s6.by_, s6.h7, fun x hx h1 h2 => (ho7 x (by omega) (by omega)).trans (s6.oth x hx h1 h2), s6.bl.trans (hb7.mono (by omega)), by omega⟩
            have h78 := (ho7 b8 (by omega) (by omega)).trans H68.out
            have HFLEN := HF.out.fl
            have H2 := hidE (way_any W7 b8 (w.heap.size + 1) b7 (q : Int) (p : Int) s.by_ 1000 L 191 #[.pointer (some ⟨w.heap.size, 0, none⟩), .pointer (some ⟨W5.heap.size, 0, none⟩)]
             (fun pre W => W.heap[gF]? = some (.cells (rowA (moveP m pre F.flow)) 3 (0,0)) ∧ (∀ x : Nat, x < W7.heap.size → x ≠ gF → W.heap[x]? = W7.heap[x]?) ∧ Below gF W7 W) HL9.out hwh.2.2 (by omega) (by omega) HSRC.out (cell_of_one h78)
             (fun pre W h => ⟨cell_of_one ((h.2.1 _ (by omega) (by omega)).trans st7.x3), (h.2.1 _ (by have := st7.sz; omega) (by have := st7.h7; omega)).trans st7.by_⟩) ⟨st7.fl, fun _ _ _ => rfl, Below.refl _ _⟩
             (fun pre a W h hp2 => by
              obtain ⟨i1, i2, i3⟩ := h
              obtain ⟨post, e⟩ := hp2
              have ham : a ∈ L := by rw [e]; simp
              have hsz := i3.size
              have hnd := PW2.out
              rw [e, List.map_append, List.map_cons, List.nodup_append] at hnd
              have hoth : (moveP m pre F.flow).getD a.bd 0 = F.flow.getD a.bd 0 := moveP_other pre F.flow fun x hx ee => hnd.2.2 x.bd (List.mem_map.2 ⟨x, hx, rfl⟩) a.bd (by simp) ee
              have hfb := HFB.out a.bd
              have hlen : (moveP m pre F.flow).length = bs.length := by rw [moveP_len, HFLEN]
              have n2 : W.cell? ⟨bn, 2, none⟩ = some (.slice (some ⟨gF, 0, none⟩) (moveP m pre F.flow).length bs.length) := by rw [cell_of_row _ _ _ _ _ _ ((i2 bn (by omega) (by omega)).trans st7.net), hlen]; rfl
              refine (move_any W a W5.heap.size w.heap.size bn gF bs.length (moveP m pre F.flow) m ((i2 _ (by omega) (by omega)).trans hi7) ((i2 _ (by omega) (by omega)).trans st7.x2) n2 i1 (by omega) (by rw [hlen]; exact HBD.out a ham) (by omega) (by rw [hoth]; omega) (by omega)).mono ?_
              rintro e w' ⟨rfl, r1, r2, r3⟩
              refine ⟨rfl, ?_, fun x hx hne => (r2 x (by omega) hne).trans (i2 x hx hne), i3.trans r3⟩
              rw [show moveP m (pre ++ [a]) F.flow = move1 m (moveP m pre F.flow) a from by unfold moveP; rw [List.foldl_append]; rfl]
              exact r1) (enters_of Tryz.func191 (by kernel_rfl) rfl))
            have HI7 := hidE hi7
            have ST7 := hidE st7
            have HO7 := hidE ho7
            have H78 := hidE h78
            clear hi7 ho7 hb7 st7 h78 HFLEN H1
            go_wp2_with fail
            refine H2.out.mono ?_
            rintro e W8 ⟨rfl, hi8, ho8, hb8⟩
            clear H2
            have hs8 := hb8.size
            have st8 : PSt w W8 B bn gF b7 (.slice a bs.length cap) N bs.length F.need (moveP m L F.flow) s p := by
             have s6 := ST7.out
             have z7 := s6.sz
             have y7 := s6.h7
             exact ⟨(ho8 _ (by omega) (by omega)).trans s6.net, hi8, (ho8 _ (by omega) (by omega)).trans s6.x2, (ho8 _ (by omega) (by omega)).trans s6.x3, (ho8 _ (by omega) (by omega)).trans s6.kn, (ho8 _ (by omega) (by omega)).trans s6.by_, s6.h7, fun x hx h1 h2 => (ho8 x (by omega) (by omega)).trans (s6.oth x hx h1 h2), s6.bl.trans (hb8.mono (by omega)), by omega⟩
            have a0 : W8.cell? ⟨w.heap.size, 0, none⟩ = some (.pointer (some ⟨bn, 0, none⟩)) := cell_of_one st8.x2
            have a1 : W8.cell? ⟨w.heap.size + 1, 0, none⟩ = some (.int .i64 (p : Int)) := cell_of_one st8.x3
            have a2 : W8.cell? ⟨bn, 3 + p, none⟩ = some (.int .i64 y) := by rw [cell_of_row _ _ _ _ _ _ st8.net, netF_get (by rw [hnl.out]; omega), HY.out]
            have a3 : W8.cell? ⟨W5.heap.size, 0, none⟩ = some (.int .i64 m) := cell_of_one ((ho8 _ (by omega) (by omega)).trans HI7.out)
            have b2 : W8.cell? ⟨b8, 0, none⟩ = some (.int .i64 (q : Int)) := cell_of_one ((ho8 _ (by omega) (by omega)).trans H78.out)
            have f14 : W8.frozen? ⟨bn, 3 + p, none⟩ = false := frozen_of_row _ _ _ _ _ st8.net
            have hqp : q ≠ p := by intro e; subst e; rw [HY.out] at HZ; have := HZ.out; omega
            have w14 : IntKind.i64.wrap (y + m) = y + m := IntWalk.i64_in _ (by omega)
            have w15 : IntKind.i64.wrap (z - m) = z - m := IntWalk.i64_in _ (by omega)
            have ST8 := hidE st8
            have HG4 := HGO3
            clear st8 hi8 ho8 hb8 HO7 HI7 H78
            go_upto_region 14 with fail
            refine wp_region_K (S2 := fun _ => True) (S := fun V => V.cell? ⟨w.heap.size, 0, none⟩ = some (.pointer (some ⟨bn, 0, none⟩)) ∧ V.cell? ⟨w.heap.size + 1, 0, none⟩ = some (.int .i64 (p : Int)) ∧ V.cell? ⟨bn, 3 + p, none⟩ = some (.int .i64 y) ∧ V.cell? ⟨W5.heap.size, 0, none⟩ = some (.int .i64 m)) (T := fun t => t == 11) (by kernel_rfl) ?_
            obtain ⟨V1, hV1⟩ : ∃ V1, V1 = W8.drew := ⟨_, rfl⟩
            rw [← hV1]
            have hS : V1.cell? ⟨w.heap.size, 0, none⟩ = some (.pointer (some ⟨bn, 0, none⟩)) ∧ V1.cell? ⟨w.heap.size + 1, 0, none⟩ = some (.int .i64 (p : Int)) ∧ V1.cell? ⟨bn, 3 + p, none⟩ = some (.int .i64 y) ∧ V1.cell? ⟨W5.heap.size, 0, none⟩ = some (.int .i64 m) := by rw [hV1]; exact ⟨a0, a1, a2, a3⟩
            have c14 : V1.cell? ⟨bn, 3 + p, none⟩ = some (.int .i64 y) := hS.2.2.1
            have g14 : V1.frozen? ⟨bn, 3 + p, none⟩ = false := by rw [hV1]; exact f14
            have HV1 := hidE hV1
            clear hV1
            refine wpAnyK_load (i := 0) (d := 85) (v := .pointer (some ⟨bn, 0, none⟩)) rfl rfl rfl (by kernel_rfl) (by kernel_rfl) (by kernel_rfl) (by kernel_rfl) (by kernel_rfl) (fun _ _ _ h => h) (.inl ⟨rfl, fun V hV => ?_⟩) hS trivial ?_
            ·obtain ⟨r0, r1, r2, r3⟩ := hV
             simp [go_sem, execOp, r0]
            try simp only [s_a, s_b, s_c]
            refine wpAnyK_load (i := 1) (d := 86) (v := .int .i64 (p : Int)) rfl rfl rfl (by kernel_rfl) (by kernel_rfl) (by kernel_rfl) (by kernel_rfl) (by kernel_rfl) (fun _ _ _ h => h) (.inl ⟨rfl, fun V hV => ?_⟩) hS trivial ?_
            ·obtain ⟨r0, r1, r2, r3⟩ := hV
             simp [go_sem, execOp, r1]
            try simp only [s_a, s_b, s_c]
            refine t_k 2 87 (.pointer (some ⟨bn, 0, none⟩)) rfl (by kernel_rfl) rfl (fun _ _ _ h => h) (fun V hV => ?_) ⟨trivial, .inr hS⟩ ?_
            ·simp [go_sem, execOp]
            try simp only [s_a, s_b, s_c]
            refine t_k 3 88 (.pointer (some ⟨bn, 3, none⟩)) rfl (by kernel_rfl) rfl (fun _ _ _ h => h) (fun V hV => ?_) ⟨trivial, .inr hS⟩ ?_
            ·simp [go_sem, execOp]
            try simp only [s_a, s_b, s_c]
            refine t_k 4 89 (.pointer (some ⟨bn, 3 + p, none⟩)) rfl (by kernel_rfl) rfl (fun _ _ _ h => h) (fun V hV => ?_) ⟨trivial, .inr hS⟩ ?_
            ·simp [go_sem, execOp, j1]
            try simp only [s_a, s_b, s_c]
            refine wpAnyK_load (i := 5) (d := 90) (v := .int .i64 y) rfl rfl rfl (by kernel_rfl) (by kernel_rfl) (by kernel_rfl) (by kernel_rfl) (by kernel_rfl) (fun _ _ _ h => h) (.inl ⟨rfl, fun V hV => ?_⟩) hS trivial ?_
            ·obtain ⟨r0, r1, r2, r3⟩ := hV
             simp [go_sem, execOp, r2]
            try simp only [s_a, s_b, s_c]
            refine wpAnyK_load (i := 6) (d := 91) (v := .int .i64 m) rfl rfl rfl (by kernel_rfl) (by kernel_rfl) (by kernel_rfl) (by kernel_rfl) (by kernel_rfl) (fun _ _ _ h => h) (.inl ⟨rfl, fun V hV => ?_⟩) hS trivial ?_
            ·obtain ⟨r0, r1, r2, r3⟩ := hV
             simp [go_sem, execOp, r3]
            try simp only [s_a, s_b, s_c]
            refine t_k 7 92 (.int .i64 (y + m)) rfl (by kernel_rfl) rfl (fun _ _ _ h => h) (fun V hV => ?_) ⟨trivial, .inr hS⟩ ?_
            ·simp [go_sem, execOp, w14]
            try simp only [s_a, s_b, s_c]
            refine t_k 8 93 (.pointer (some ⟨bn, 0, none⟩)) rfl (by kernel_rfl) rfl (fun _ _ _ h => h) (fun V hV => ?_) ⟨trivial, .inr hS⟩ ?_
            ·simp [go_sem, execOp]
            try simp only [s_a, s_b, s_c]
            refine t_k 9 94 (.pointer (some ⟨bn, 3, none⟩)) rfl (by kernel_rfl) rfl (fun _ _ _ h => h) (fun V hV => ?_) ⟨trivial, .inr hS⟩ ?_
            ·simp [go_sem, execOp]
            try simp only [s_a, s_b, s_c]
            refine t_k 10 95 (.pointer (some ⟨bn, 3 + p, none⟩)) rfl (by kernel_rfl) rfl (fun _ _ _ h => h) (fun V hV => ?_) ⟨trivial, .inr hS⟩ ?_
            ·simp [go_sem, execOp, j1]
            try simp only [s_a, s_b, s_c]
            refine wpAnyK_step 11 rfl (by kernel_rfl) (fun K hK => ?_)
            go_simp
            refine hK.out _ _ ⟨trivial, .inl ⟨11, rfl, by kernel_rfl⟩⟩ ?_
            clear hK K
            try simp only [Act.put, s_a, s_b, s_c]
            refine wpAnyK_done (by kernel_rfl) ?_ _
            clear hS c14 g14 a2 f14
            go_upto_region 15 with fail
            obtain ⟨W9, hW9⟩ : ∃ W9, W9 = V1.setCell ⟨bn, 3 + p, none⟩ (.int .i64 (y + m)) := ⟨_, rfl⟩
            rw [← hW9]
            have n9 : W9.heap[bn]? = some (.cells (netF N (.slice a bs.length cap) (.slice (some ⟨gF, 0, none⟩) bs.length bs.length) (F.need.set p (y + m))) 155 (0,0)) := by
             rw [hW9, ← netF_set]; exact heap_setCell_same _ _ _ _ _ _ (by rw [HV1.out]; exact ST8.out.net)
            have o9 : ∀ x : Nat, x ≠ bn → W9.heap[x]? = W8.heap[x]? := fun x hx => by rw [hW9, heap_setCell_other _ _ _ _ hx, HV1.out]; rfl
            have e0 : W9.cell? ⟨w.heap.size, 0, none⟩ = some (.pointer (some ⟨bn, 0, none⟩)) := cell_of_one ((o9 _ (by omega)).trans ST8.out.x2)
            have e1 : W9.cell? ⟨b8, 0, none⟩ = some (.int .i64 (q : Int)) := (World.cell?_of_block (w := W8) (a := ⟨b8, 0, none⟩) (o9 b8 (by omega))).trans b2
            have e2 : W9.cell? ⟨bn, 3 + q, none⟩ = some (.int .i64 z) := by
             rw [cell_of_row _ _ _ _ _ _ n9, netF_get (by rw [List.length_set, hnl.out]; omega), getD_set_at, if_neg (fun e => hqp e.1.symm), HZ.out]
            have e3 : W9.cell? ⟨W5.heap.size, 0, none⟩ = some (.int .i64 m) := (World.cell?_of_block (w := W8) (a := ⟨W5.heap.size, 0, none⟩) (o9 W5.heap.size (by omega))).trans a3
            have f15 : W9.frozen? ⟨bn, 3 + q, none⟩ = false := frozen_of_row _ _ _ _ _ n9
            have b9 := hidE (show Below B W8 W9 by rw [hW9, HV1.out]; exact (((Below.refl B W8).drew).setCell (p := ⟨bn, 3 + p, none⟩) hBn _))
            have z9 : W9.heap.size = W8.heap.size := by rw [hW9, HV1.out]; simp
            have N9 := hidE n9
            have O9 := hidE o9
            have Z9 := hidE z9
            clear hW9 HV1 n9 o9 z9 a0 a1 a3 b2
            refine wp_region_K (S2 := fun _ => True) (S := fun V => V.cell? ⟨w.heap.size, 0, none⟩ = some (.pointer (some ⟨bn, 0, none⟩)) ∧ V.cell? ⟨b8, 0, none⟩ = some (.int .i64 (q : Int)) ∧ V.cell? ⟨bn, 3 + q, none⟩ = some (.int .i64 z) ∧ V.cell? ⟨W5.heap.size, 0, none⟩ = some (.int .i64 m)) (T := fun t => t == 11) (by kernel_rfl) ?_
            obtain ⟨V1, hV1⟩ : ∃ V1, V1 = W9.drew := ⟨_, rfl⟩
            rw [← hV1]
            have hS : V1.cell? ⟨w.heap.size, 0, none⟩ = some (.pointer (some ⟨bn, 0, none⟩)) ∧ V1.cell? ⟨b8, 0, none⟩ = some (.int .i64 (q : Int)) ∧ V1.cell? ⟨bn, 3 + q, none⟩ = some (.int .i64 z) ∧ V1.cell? ⟨W5.heap.size, 0, none⟩ = some (.int .i64 m) := by rw [hV1]; exact ⟨e0, e1, e2, e3⟩
            have c14 : V1.cell? ⟨bn, 3 + q, none⟩ = some (.int .i64 z) := hS.2.2.1
            have g14 : V1.frozen? ⟨bn, 3 + q, none⟩ = false := by rw [hV1]; exact f15
            have HV1 := hidE hV1
            clear hV1
            refine wpAnyK_load (i := 0) (d := 96) (v := .pointer (some ⟨bn, 0, none⟩)) rfl rfl rfl (by kernel_rfl) (by kernel_rfl) (by kernel_rfl) (by kernel_rfl) (by kernel_rfl) (fun _ _ _ h => h) (.inl ⟨rfl, fun V hV => ?_⟩) hS trivial ?_
            ·obtain ⟨r0, r1, r2, r3⟩ := hV
             simp [go_sem, execOp, r0]
            try simp only [s_a, s_b, s_c]
            refine wpAnyK_load (i := 1) (d := 97) (v := .int .i64 (q : Int)) rfl rfl rfl (by kernel_rfl) (by kernel_rfl) (by kernel_rfl) (by kernel_rfl) (by kernel_rfl) (fun _ _ _ h => h) (.inl ⟨rfl, fun V hV => ?_⟩) hS trivial ?_
            ·obtain ⟨r0, r1, r2, r3⟩ := hV
             simp [go_sem, execOp, r1]
            try simp only [s_a, s_b, s_c]
            refine t_k 2 98 (.pointer (some ⟨bn, 0, none⟩)) rfl (by kernel_rfl) rfl (fun _ _ _ h => h) (fun V hV => ?_) ⟨trivial, .inr hS⟩ ?_
            ·simp [go_sem, execOp]
            try simp only [s_a, s_b, s_c]
            refine t_k 3 99 (.pointer (some ⟨bn, 3, none⟩)) rfl (by kernel_rfl) rfl (fun _ _ _ h => h) (fun V hV => ?_) ⟨trivial, .inr hS⟩ ?_
            ·simp [go_sem, execOp]
            try simp only [s_a, s_b, s_c]
            refine t_k 4 100 (.pointer (some ⟨bn, 3 + q, none⟩)) rfl (by kernel_rfl) rfl (fun _ _ _ h => h) (fun V hV => ?_) ⟨trivial, .inr hS⟩ ?_
            ·simp [go_sem, execOp, i1]
            try simp only [s_a, s_b, s_c]
            refine wpAnyK_load (i := 5) (d := 101) (v := .int .i64 z) rfl rfl rfl (by kernel_rfl) (by kernel_rfl) (by kernel_rfl) (by kernel_rfl) (by kernel_rfl) (fun _ _ _ h => h) (.inl ⟨rfl, fun V hV => ?_⟩) hS trivial ?_
            ·obtain ⟨r0, r1, r2, r3⟩ := hV
             simp [go_sem, execOp, r2]
            try simp only [s_a, s_b, s_c]
            refine wpAnyK_load (i := 6) (d := 102) (v := .int .i64 m) rfl rfl rfl (by kernel_rfl) (by kernel_rfl) (by kernel_rfl) (by kernel_rfl) (by kernel_rfl) (fun _ _ _ h => h) (.inl ⟨rfl, fun V hV => ?_⟩) hS trivial ?_
            ·obtain ⟨r0, r1, r2, r3⟩ := hV
             simp [go_sem, execOp, r3]
            try simp only [s_a, s_b, s_c]
            refine t_k 7 103 (.int .i64 (z - m)) rfl (by kernel_rfl) rfl (fun _ _ _ h => h) (fun V hV => ?_) ⟨trivial, .inr hS⟩ ?_
            ·simp [go_sem, execOp, w15]
            try simp only [s_a, s_b, s_c]
            refine t_k 8 104 (.pointer (some ⟨bn, 0, none⟩)) rfl (by kernel_rfl) rfl (fun _ _ _ h => h) (fun V hV => ?_) ⟨trivial, .inr hS⟩ ?_
            ·simp [go_sem, execOp]
            try simp only [s_a, s_b, s_c]
            refine t_k 9 105 (.pointer (some ⟨bn, 3, none⟩)) rfl (by kernel_rfl) rfl (fun _ _ _ h => h) (fun V hV => ?_) ⟨trivial, .inr hS⟩ ?_
            ·simp [go_sem, execOp]
            try simp only [s_a, s_b, s_c]
            refine t_k 10 106 (.pointer (some ⟨bn, 3 + q, none⟩)) rfl (by kernel_rfl) rfl (fun _ _ _ h => h) (fun V hV => ?_) ⟨trivial, .inr hS⟩ ?_
            ·simp [go_sem, execOp, i1]
            try simp only [s_a, s_b, s_c]
            refine wpAnyK_step 11 rfl (by kernel_rfl) (fun K hK => ?_)
            go_simp
            refine hK.out _ _ ⟨trivial, .inl ⟨11, rfl, by kernel_rfl⟩⟩ ?_
            clear hK K
            try simp only [Act.put, s_a, s_b, s_c]
            refine wpAnyK_done (by kernel_rfl) ?_ _
            clear hS c14 g14 f15 e0 e1 e2 e3
            go_wp2_with fail
            go_ret
            rw [← HG4.out]
            have l8 : ∀ x : Nat, x ≠ bn → (V1.setCell ⟨bn, 3 + q, none⟩ (.int .i64 (z - m))).heap[x]? = W8.heap[x]? := fun x hx => by
             rw [heap_setCell_other _ _ _ _ hx, HV1.out]; exact O9.out x hx
            refine ⟨rfl, ?_, ?_, fun x hx h1 h2 => ?_, ?_⟩
            ·rw [heap_setCell_same _ _ _ _ _ _ (show V1.heap[bn]? = _ by rw [HV1.out]; exact N9.out), netF_set]
             congr 3
             simp only [Option.getD_some]
             unfold addAt
             rw [getD_set_at, if_neg (fun e => hqp e.1.symm), HY.out, HZ.out]
             rfl
            ·rw [l8 gF (by omega)]; exact ST8.out.fl
            ·rw [l8 x (by omega)]; exact ST8.out.oth x hx h1 h2
            ·have q1 : Below B W8 V1 := by rw [HV1.out]; exact b9.out.drew
             exact (ST8.out.bl.trans q1).setCell (p := ⟨bn, 3 + q, none⟩) hBn _
      ·have d3 : decide ((q : Int) < (N : Int)) = false := by simp; omega
       have d3' : decide (q < N) = false := by simp; omega
       have d4 : decide ((N : Int) ≤ (q : Int)) = true := by simp; omega
       have d4' : decide (N ≤ q) = true := by simp; omega
       have hR : R = none := by
        have := HGO2.out
        rw [firstQ_none (fun r hr => hall.out r (by omega))] at this
        simpa using this.symm
       subst hR
       go_upto_region 6 with fail
       go_quiet (fail)
       go_wp2_with fail
       go_quiet (fail)
       go_wp2_with fail
       go_ret
       exact ((hst.out.drewN _).drewN _).post
end Go.Proofs.YthjmkmjojlfejaaGreat
