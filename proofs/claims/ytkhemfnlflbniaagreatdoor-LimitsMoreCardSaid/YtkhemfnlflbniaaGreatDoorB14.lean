/- Merged text 14 of the base: Lm15, E14, E15, E16, E17, E18, E24, E21, E30, E31, E32. No conditions beyond those stated. -/
import Derived.Test.YtkhemfnlflbniaaGreatDoorB12
import Derived.Test.YtkhemfnlflbniaaGreatDoorB13
import Derived.Test.YtkhemfnlflbniaaGreatDoorB04
import Derived.Test.YtkhemfnlflbniaaGreatDoorB10
import Derived.Test.YtkhemfnlflbniaaGreatDoorB06
namespace Go.Proofs.YtkhemfnlflbniaaGreatDoor
theorem award_parts {lo hi a b : Int} (hab : a < b) (h : lo ≤ hi) : (if cutP lo hi a b = (0, 0, b - a) then 1 else if cutP lo hi a b = (b - a, 0, 0) then 2 else 0 : Int) = awardOf lo hi a b := by
 unfold awardOf
 by_cases k : hi ≤ a
 ·rw [if_pos ((cut_north hab h).2 k), if_pos k]
 ·rw [if_neg (fun q => k ((cut_north hab h).1 q)), if_neg k]
  by_cases m : b ≤ lo
  ·rw [if_pos ((cut_south hab h).2 m), if_pos m]
  ·rw [if_neg (fun q => m ((cut_south hab h).1 q)), if_neg m]
theorem idle_rows {F : Fld} {l : List Rcd} {id : Int} : idleB F l id = true ↔ ∀ a, a < ptN F → ((List.range (ptN F)).map fun b => distN (ptN F) (sysL F (withoutId l id)) a b) = (List.range (ptN F)).map fun b => distN (ptN F) (sysL F l) a b := by
 rw [idle_iff]
 constructor
 ·intro h a ha
  exact List.map_congr_left fun b hb => h a b ha (List.mem_range.1 hb)
 ·intro h a b ha hb
  have := congrArg (fun z : List Int => z.getD b 0) (h a ha)
  simpa [List.getD_eq_getElem?_getD, hb] using this
end Go.Proofs.YtkhemfnlflbniaaGreatDoor
namespace Go.Proofs.YtkhemfnlflbniaaGreatDoor
open Go Go.RowKit Go.Shelf
set_option maxRecDepth 10000 in
set_option maxHeartbeats 2000000 in
theorem cornerOf_any (w : World) (i s a c : Int) :
 Calls Tryz.prog 127 #[.agg #[.int .i64 i, .int .i64 s, .int .i64 a, .int .i64 c]] w fun e w' => e = .returned (.agg #[.int .i64 i, .int .i64 s]) ∧ Below w.heap.size w w' := by
 obtain ⟨w0, hw0⟩ : ∃ W, W = (w.alloc (.cells #[.int .i64 i, .int .i64 s, .int .i64 a, .int .i64 c] 40)).alloc (.cells #[.int .i64 0, .int .i64 0] 30) := ⟨_, rfl⟩
 have B0 := hidE (show Below w.heap.size w w0 by rw [hw0]; exact ((Below.refl _ _).alloc (Nat.le_refl _) _).alloc (by simp) _)
 have X0 := hidE (show Kb [(w.heap.size + 1, .cells #[.int .i64 0, .int .i64 0] 30), (w.heap.size, .cells #[.int .i64 i, .int .i64 s, .int .i64 a, .int .i64 c] 40)] w0 by
  rw [hw0]
  have := Kb.alloc (o := .cells #[.int .i64 0, .int .i64 0] 30) (Kb.alloc (W := w) (o := .cells #[.int .i64 i, .int .i64 s, .int .i64 a, .int .i64 c] 40) (L := []) trivial)
  simpa using this)
 have kk := rowc X0.out.2.1
 go_enter Tryz.func127, Tryz.ntmps127
 go_upto_region 1 with fail
 rw [← hw0]
 clear hw0
 go_wp2_with (refine wpList_store_row rfl 30 _ _ rfl (w.heap.size + 1) #[.int .i64 i, .int .i64 s] rfl rfl 30 _ X0.out.1 (by kernel_rfl) rfl (by simp [Value.oneCell']) ?_)
 refine bodyPost_ret (v := .agg #[.int .i64 i, .int .i64 s]) (results_cell_one Tryz.results127 _ _ (w.heap.size + 1) 30 #[.int .i64 i, .int .i64 s] (0,0) _ rfl (setRow_heap _ _ _ _ _ _ X0.out.1) Tryz.underlying30 rfl (by kernel_rfl)) rfl ⟨rfl, below_setRow B0.out (Nat.le_succ w.heap.size) _⟩
set_option maxRecDepth 10000 in
set_option maxHeartbeats 2000000 in
theorem cut1_any (w : World) (g : Nat) (v i s a c : Int) (h : w.heap[g]? = some (.cells #[.int .i64 i, .int .i64 s, .int .i64 a, .int .i64 c] 40 (0,0))) :
 Calls Tryz.prog 199 #[.int .i64 v, .pointer (some ⟨g, 0, none⟩)] w fun e w' => e = .returned (.int .i64 (clampE v a c)) ∧ w = w' := by
 have kk := rowc h
 clear h
 unfold clampE
 go_enter Tryz.func199, Tryz.ntmps199
 go_wp2_with fail
 go_ret
 exact ⟨by simp, rfl⟩
theorem clamp_bd (y : Int) {a c : Int} (h : a ≤ c) : a ≤ clampE y a c ∧ clampE y a c ≤ c := by unfold clampE; omega
set_option maxRecDepth 10000 in
set_option maxHeartbeats 2000000 in
theorem cut_any (w : World) (i s a c : Int) (g n cp : Nat) (zs : List Int) (hn : 0 < n) (hz : n = zs.length) (hbig : n ≤ 1000) (hg : g < w.heap.size) (hc : ∀ j, j < zs.length → w.cell? ⟨g, j, none⟩ = some (.int .i64 (zs.getD j 0))) (h0 : 0 ≤ a) (h1 : a ≤ c) (h2 : c ≤ 100000) :
 Calls Tryz.prog 126 #[.agg #[.int .i64 i, .int .i64 s, .int .i64 a, .int .i64 c], .slice (some ⟨g, 0, none⟩) n cp] w fun e w' =>
  e = .returned (.agg #[.int .i64 (clampE (Lib.minOf zs) a c - a), .int .i64 (clampE (Lib.maxOf zs) a c - clampE (Lib.minOf zs) a c), .int .i64 (c - clampE (Lib.maxOf zs) a c)]) ∧ Below w.heap.size w w' := by
 obtain ⟨w0, hw0⟩ : ∃ W, W = (w.alloc (.cells #[.int .i64 i, .int .i64 s, .int .i64 a, .int .i64 c] 40)).alloc (.cells #[.int .i64 0, .int .i64 0, .int .i64 0] 127) := ⟨_, rfl⟩
 have B0 := hidE (show Below w.heap.size w w0 by rw [hw0]; exact ((Below.refl _ _).alloc (Nat.le_refl _) _).alloc (by simp) _)
 have X0 := hidE (show Kb [(w.heap.size + 1, .cells #[.int .i64 0, .int .i64 0, .int .i64 0] 127), (w.heap.size, .cells #[.int .i64 i, .int .i64 s, .int .i64 a, .int .i64 c] 40)] w0 by
  rw [hw0]
  have := Kb.alloc (o := .cells #[.int .i64 0, .int .i64 0, .int .i64 0] 127) (Kb.alloc (W := w) (o := .cells #[.int .i64 i, .int .i64 s, .int .i64 a, .int .i64 c] 40) (L := []) trivial)
  simpa using this)
 have hc0 : ∀ j, j < zs.length → w0.cell? ⟨g, 0 + j, none⟩ = some (.int .i64 (zs.getD j 0)) := fun j hj => by rw [Nat.zero_add, B0.out.cell (by exact hg)]; exact hc j hj
 have HMI := hidE (Tryz.slices_Min_int g 0 n cp zs w0 hn (by omega) (by omega) hc0)
 have HMA := hidE (Tryz.slices_Max_int g 0 n cp zs w0 hn (by omega) (by omega) hc0)
 rw [List.take_of_length_le (by omega)] at HMI HMA
 obtain ⟨m, hm⟩ : ∃ m, Lib.minOf zs = m := ⟨_, rfl⟩
 obtain ⟨M, hM⟩ : ∃ m, Lib.maxOf zs = m := ⟨_, rfl⟩
 rw [hm] at HMI ⊢
 rw [hM] at HMA ⊢
 have HC1 := hidE (cut1_any w0 w.heap.size m i s a c X0.out.2.1)
 have HC2 := hidE (cut1_any w0 w.heap.size M i s a c X0.out.2.1)
 have k1 := clamp_bd m h1
 have k2 := clamp_bd M h1
 obtain ⟨u, hu⟩ : ∃ u, clampE m a c = u := ⟨_, rfl⟩
 obtain ⟨v, hv⟩ : ∃ u, clampE M a c = u := ⟨_, rfl⟩
 rw [hu] at HC1 k1 ⊢
 rw [hv] at HC2 k2 ⊢
 have e1 : IntKind.i64.wrap (u - a) = u - a := IntWalk.i64_in _ (by omega)
 have e2 : IntKind.i64.wrap (v - u) = v - u := IntWalk.i64_in _ (by omega)
 have e3 : IntKind.i64.wrap (c - v) = c - v := IntWalk.i64_in _ (by omega)
 have kk := rowc X0.out.2.1
 clear hm hM hu hv hc hc0 k1 k2 hn hz hbig hg h0 h1 h2
 go_enter Tryz.func126, Tryz.ntmps126
 go_upto_region 1 with fail
 rw [← hw0]
 clear hw0
 go_wp2_with (first | (go_at_call 200; refine HMI.out.mono ?_; rintro e w1 ⟨rfl, rfl⟩) | (go_at_call 201; refine HMA.out.mono ?_; rintro e w1 ⟨rfl, rfl⟩) | (go_at_call 199; (first | with_reducible refine HC1.out.mono ?_ | with_reducible refine HC2.out.mono ?_); rintro e w1 ⟨rfl, rfl⟩) | (refine wpList_store_row rfl 127 _ _ rfl (w.heap.size + 1) #[.int .i64 (u - a), .int .i64 (v - u), .int .i64 (c - v)] rfl rfl 127 _ X0.out.1 (by kernel_rfl) rfl (by simp [Value.oneCell']) ?_))
 refine bodyPost_ret (v := .agg #[.int .i64 (u - a), .int .i64 (v - u), .int .i64 (c - v)]) (results_cell_one Tryz.results126 _ _ (w.heap.size + 1) 127 #[.int .i64 (u - a), .int .i64 (v - u), .int .i64 (c - v)] (0,0) _ rfl (setRow_heap _ _ _ _ _ _ X0.out.1) Tryz.underlying127 rfl (by kernel_rfl)) rfl ⟨rfl, below_setRow B0.out (Nat.le_succ w.heap.size) _⟩
set_option maxRecDepth 10000 in
set_option maxHeartbeats 2000000 in
theorem measured1_any (W : World) (b g : Nat) (y : WV) (F : Fld) (l : List Rcd) (i s a c : Int) (h : WAt W b y F l) (hF : F.check = 0) (hg : W.heap[g]? = some (.cells #[.int .i64 i, .int .i64 s, .int .i64 a, .int .i64 c] 40 (0,0))) :
 Calls Tryz.prog 160 #[.pointer (some ⟨b, 0, none⟩), .pointer (some ⟨g, 0, none⟩)] W fun e w' => e = .returned (.bool (stripB F i s a c)) ∧ Below W.heap.size W w' := by
 have HC := hidE (stripW_any W b y F l i s a c h hF)
 have kk := rowc hg
 clear h hF hg
 go_enter Tryz.func160, Tryz.ntmps160
 go_wp2_with fail
 refine HC.out.mono ?_
 rintro e w1 ⟨rfl, hb1⟩
 go_wp2_with fail
 go_ret
 exact ⟨rfl, hb1⟩
theorem inv_strip {F : Fld} {i s a c : Int} (h : flagE (stripB F i s a c) = 0) : limB F i = true ∧ staB F s = true ∧ 0 ≤ a ∧ a < c ∧ c ≤ 100000 := by
 unfold flagE stripB cornB at h
 cases p : limB F i <;> cases q : staB F s <;> simp_all
theorem cell_setRow (w : World) (g : Nat) (cs : Array Value) {p : Addr} (h : p.block ≠ g) : (w.setRow g cs).cell? p = w.cell? p := by
 unfold World.cell?
 rw [setRow_other _ _ _ _ h]
theorem bounds_setRow {w : World} {o : Option Addr} {bs : List Bd} (h : BoundsAt w o bs) {g : Nat} (hq : ∀ q, o = some q → q.block ≠ g) (cs : Array Value) : BoundsAt (w.setRow g cs) o bs := by
 rcases h with h | ⟨b, off, e, hl, hc⟩
 ·exact .inl h
 ·have hb : b ≠ g := hq ⟨b, off, none⟩ e
  refine .inr ⟨b, off, e, by simpa [World.setRow] using hl, fun i hi => ?_⟩
  have := hc i hi
  unfold Bd.cellsAt at *
  simpa only [cell_setRow w g cs (p := ⟨b, _, none⟩) hb] using this
def MeasPost (w : World) (x : FV) (F : Fld) (ar : Option Addr) (cr : Nat) (l : List Rcd) (i s a c : Int) (err : Int) (e : Ending) (w' : World) : Prop :=
 if err = 0 then ∃ b o c9, e = .returned (.tuple #[.pointer (some ⟨b, 0, none⟩), .agg #[.int .i64 (cutP (lowE F l (ptS F i s)) (highE F l (ptS F i s)) a c).1, .int .i64 (cutP (lowE F l (ptS F i s)) (highE F l (ptS F i s)) a c).2.1, .int .i64 (cutP (lowE F l (ptS F i s)) (highE F l (ptS F i s)) a c).2.2], .int .i64 0]) ∧ WAt w' b ⟨x, o, c9, ar, cr⟩ F l ∧ w.heap.size ≤ b
 else e = .returned (.tuple #[.pointer none, .agg #[.int .i64 0, .int .i64 0, .int .i64 0], .int .i64 err])
theorem results_mid {P : Program} {fn : Func} {p u v : Tmp} {ty : TypeId} (h : fn.results = #[.tmp u, .cell p ty, .tmp v]) (tmps : Array Value) (w : World) (g : Nat) (t : TypeId) (cs : Array Value) (fr : Nat × Nat) (d : TypeDesc)
 (hp : tmps.getD p undef = .pointer (some ⟨g, 0, none⟩)) (hg : w.heap[g]? = some (.cells cs t fr))
 (hu : P.underlying ty = some d) (hd : (match d with | .struct _ | .array _ _ => true | _ => false) = true) (hi : (P.info? ty).map (·.size) = some cs.size) :
 (results fn tmps).run P w = .ok (.tuple #[tmps.getD u undef, .agg cs, tmps.getD v undef]) w := by
 have hp' : tmps[p]?.getD undef = .pointer (some ⟨g, 0, none⟩) := by simpa using hp
 simp [results, h, hp', asAddr, run_loadVar_row w g t ty cs fr d hg hu hd hi]
set_option maxRecDepth 10000 in
set_option maxHeartbeats 2000000 in
theorem measured_any (w : World) (x : FV) (F : Fld) (ar : Option Addr) (cr : Nat) (l : List Rcd) (i s a c : Int) (h : FldAt w x F) (hr : RcdsAt w ar l) (hn : l.length ≤ 100000) (hk : ∀ r ∈ l, (0 ≤ r.call.kind ∧ r.call.kind ≤ 255) ∧ r.deed.size ≤ 9223372036854775807) :
 Calls Tryz.prog 88 #[x.val F, .slice ar l.length cr, .agg #[.int .i64 i, .int .i64 s, .int .i64 a, .int .i64 c]] w fun e w' => MeasPost w x F ar cr l i s a c (matchE F l (flagE (stripB F i s a c))) e w' ∧ Below w.heap.size w w' := by
 obtain ⟨w0, hw0⟩ : ∃ W, W = ((w.alloc (.cells (x.arr F) 27)).alloc (.cells #[.int .i64 i, .int .i64 s, .int .i64 a, .int .i64 c] 40)).alloc (.cells #[.int .i64 0, .int .i64 0, .int .i64 0] 127) := ⟨_, rfl⟩
 have B0 := hidE (show Below w.heap.size w w0 by rw [hw0]; exact (((Below.refl _ _).alloc (Nat.le_refl _) _).alloc (by simp) _).alloc (by simp; omega) _)
 have X0 := hidE (show Kb [(w.heap.size + 1 + 1, .cells #[.int .i64 0, .int .i64 0, .int .i64 0] 127), (w.heap.size + 1, .cells #[.int .i64 i, .int .i64 s, .int .i64 a, .int .i64 c] 40), (w.heap.size, .cells (x.arr F) 27)] w0 by
  rw [hw0]
  have := Kb.alloc (o := .cells #[.int .i64 0, .int .i64 0, .int .i64 0] 127) (Kb.alloc (o := .cells #[.int .i64 i, .int .i64 s, .int .i64 a, .int .i64 c] 40) (Kb.alloc (W := w) (o := .cells (x.arr F) 27) (L := []) trivial))
  simpa using this)
 have HS3 := hidE (show w0.heap.size = w.heap.size + 3 by rw [hw0]; simp)
 have HFF := hidE (fun W (hb : Below w.heap.size w W) => h.below hb)
 have HRR := hidE (fun W (hb : Below w.heap.size w W) => hr.below hb (Nat.le_refl _))
 have HA := hidE (agreed_any w0 x F ar cr l (h.below B0.out) (hr.below B0.out (Nat.le_refl _)) hn hk 160 #[.pointer (some ⟨w.heap.size + 1, 0, none⟩)] (stripB F i s a c) (enters_of Tryz.func160 (by kernel_rfl) rfl)
  (fun hg W b o c9 hw hb => measured1_any W b (w.heap.size + 1) _ F l i s a c hw hg.fld (blk_below hb (lt_of_block X0.out.2.1) X0.out.2.1)))
 have HMZ := hidE (fun (q : matchE F l (flagE (stripB F i s a c)) = 0) => match_zero.1 q)
 obtain ⟨M, hM⟩ : ∃ M, matchE F l (flagE (stripB F i s a c)) = M := ⟨_, rfl⟩
 rw [hM] at HA HMZ ⊢
 have kk := rowc X0.out.2.2.1
 clear hM h hr hn hk
 unfold FV.val FV.arr at *
 go_enter Tryz.func88, Tryz.ntmps88
 go_upto_region 1 with fail
 rw [← hw0]
 clear hw0
 go_wp2_with fail
 refine HA.out.mono ?_
 rintro e w1 ⟨hp, hb1⟩
 have B1 := hidE (B0.out.trans (hb1.mono B0.out.size))
 have X1 := hidE (X0.out.next hb1)
 clear hb1 HA kk X0
 unfold AgreedPost at hp
 by_cases h0 : M = 0
 rotate_left
 ·have hzb : (M != 0) = true := by simpa using h0
  rw [if_neg h0] at hp
  obtain ⟨v, rfl⟩ := hp
  have H0 := hidE h0
  clear h0 HMZ
  go_wp2_with (refine wpList_store_row rfl 127 _ _ rfl (w.heap.size + 1 + 1) #[.int .i64 0, .int .i64 0, .int .i64 0] rfl rfl 127 _ X1.out.1 (by kernel_rfl) rfl (by simp [Value.oneCell']) ?_)
  refine bodyPost_ret (results_mid Tryz.results88 _ _ (w.heap.size + 1 + 1) 127 #[.int .i64 0, .int .i64 0, .int .i64 0] (0,0) _ rfl (setRow_heap _ _ _ _ _ _ X1.out.1) Tryz.underlying127 rfl (by kernel_rfl)) rfl ⟨?_, below_setRow B1.out (Nat.le_add_right w.heap.size 2) _⟩
  unfold MeasPost
  rw [if_neg H0.out]
  rfl
 subst h0
 rw [if_pos rfl] at hp
 obtain ⟨b, o, c9, rfl, hw, hbl⟩ := hp
 obtain ⟨q1, q2, q3⟩ := HMZ.out rfl
 obtain ⟨q4, q5, q6, q7, q8⟩ := inv_strip q2
 have HRW := hidE (fun W (q : WAt W b ⟨x, o, c9, ar, cr⟩ F l) => regionW_any W b ⟨x, o, c9, ar, cr⟩ F l i s q q1 q3 q4 q5)
 have pb := ptS_bd q4 q5
 have eb := ends_bd q1 q3 pb.1 pb.2.1
 have HNUM := hidE (And.intro q6 (And.intro q7 q8))
 obtain ⟨lo, hlo⟩ : ∃ v, lowE F l (ptS F i s) = v := ⟨_, rfl⟩
 obtain ⟨hi, hhi⟩ : ∃ v, highE F l (ptS F i s) = v := ⟨_, rfl⟩
 rw [hlo, hhi] at HRW eb
 have HEB := hidE eb
 have HLO := hidE hlo
 have HHI := hidE hhi
 have HOQ := hidE (fun (q : Addr) (e : o = some q) => Nat.le_trans (show w.heap.size + 3 ≤ w0.heap.size by have := HS3.out; omega) (hbl.2 q e))
 have HBQ := hidE (Nat.le_trans (show w.heap.size + 3 ≤ w0.heap.size by have := HS3.out; omega) hbl.1)
 have HW := hidE hw
 have kx := rowc X1.out.2.1
 clear hw hbl HMZ q1 q2 q3 q4 q5 q6 q7 q8 pb eb hlo hhi
 go_wp2_with fail
 refine (cornerOf_any _ i s a c).mono ?_
 rintro e w2 ⟨rfl, hb2⟩
 have B2 := hidE (B1.out.trans (hb2.mono B1.out.size))
 have X2 := hidE (X1.out.next hb2)
 have W2 := hidE (HW.out.next hb2)
 clear hb2 kx X1 HW
 go_wp2_with fail
 refine (HRW.out _ W2.out).mono ?_
 rintro e w3 ⟨rfl, hb3⟩
 have B3 := hidE (B2.out.trans (hb3.mono B2.out.size))
 have X3 := hidE (X2.out.next hb3)
 have W3 := hidE (W2.out.next hb3)
 clear hb3 X2 W2 HRW
 have kx := rowc X3.out.2.1
 have HCUT := hidE (cut_any (w3.alloc (.cells #[.int .i64 lo, .int .i64 hi] 3)) i s a c w3.heap.size 2 2 [lo, hi] (by decide) rfl (by decide) (by simp)
  (fun j hj => by
   match j, hj with
   | 0, _ => exact ce (i := 0) (heap_alloc_new _ _) rfl
   | 1, _ => exact ce (i := 1) (heap_alloc_new _ _) rfl
   | j + 2, hj => exact absurd hj (by simp)) HNUM.out.1 (by have := HNUM.out; omega) HNUM.out.2.2)
 rw [show Lib.minOf [lo, hi] = lo by show min (min lo lo) hi = lo; have := HEB.out; omega, show Lib.maxOf [lo, hi] = hi by show max (max lo lo) hi = hi; have := HEB.out; omega] at HCUT
 have hb4 : Below w3.heap.size w3 (w3.alloc (.cells #[.int .i64 lo, .int .i64 hi] 3)) := (Below.refl _ _).alloc (Nat.le_refl _) _
 have B4 := hidE (B3.out.trans (hb4.mono B3.out.size))
 have X4 := hidE (X3.out.next hb4)
 have W4 := hidE (W3.out.next hb4)
 clear hb4 B3 X3 W3
 go_wp2_with fail
 refine HCUT.out.mono ?_
 rintro e w5 ⟨rfl, hb5⟩
 have B5 := hidE (B4.out.trans (hb5.mono B4.out.size))
 have X5 := hidE (X4.out.next hb5)
 have W5 := hidE (W4.out.next hb5)
 clear hb5 B4 X4 W4 HCUT kx
 go_wp2_with (refine wpList_store_row rfl 127 _ _ rfl (w.heap.size + 1 + 1) #[.int .i64 (clampE lo a c - a), .int .i64 (clampE hi a c - clampE lo a c), .int .i64 (c - clampE hi a c)] rfl rfl 127 _ X5.out.1 (by kernel_rfl) rfl (by simp [Value.oneCell']) ?_)
 have B6 := below_setRow B5.out (Nat.le_add_right w.heap.size 2) #[.int .i64 (clampE lo a c - a), .int .i64 (clampE hi a c - clampE lo a c), .int .i64 (c - clampE hi a c)]
 refine bodyPost_ret (results_mid Tryz.results88 _ _ (w.heap.size + 1 + 1) 127 #[.int .i64 (clampE lo a c - a), .int .i64 (clampE hi a c - clampE lo a c), .int .i64 (c - clampE hi a c)] (0,0) _ rfl (setRow_heap _ _ _ _ _ _ X5.out.1) Tryz.underlying127 rfl (by kernel_rfl)) rfl ⟨?_, B6⟩
 unfold MeasPost
 rw [if_pos rfl, HLO.out, HHI.out]
 refine ⟨b, o, c9, rfl, ⟨(setRow_other _ _ _ _ (by have := HBQ.out; omega)).trans W5.out.box, bounds_setRow W5.out.bnd (fun q e => by have := HOQ.out q e; omega) _, W5.out.cap, HFF.out _ B6, HRR.out _ B6⟩, by have := HBQ.out; omega⟩
set_option maxRecDepth 10000 in
set_option maxHeartbeats 2000000 in
theorem partsL_any (w : World) (x : FV) (F : Fld) (ar : Option Addr) (cr : Nat) (l : List Rcd) (i s a c : Int) (h : FldAt w x F) (hr : RcdsAt w ar l) (hn : l.length ≤ 100000) (hk : ∀ r ∈ l, (0 ≤ r.call.kind ∧ r.call.kind ≤ 255) ∧ r.deed.size ≤ 9223372036854775807) :
 Calls Tryz.prog 57 #[x.val F, .slice ar l.length cr, .agg #[.int .i64 i, .int .i64 s, .int .i64 a, .int .i64 c]] w fun e w' => e = .returned (.tuple #[.int .i64 (partsE F l i s a c).1.1, .int .i64 (partsE F l i s a c).1.2.1, .int .i64 (partsE F l i s a c).1.2.2, .int .i64 (partsE F l i s a c).2]) ∧ Below w.heap.size w w' := by
 obtain ⟨w0, hw0⟩ : ∃ W, W = (w.alloc (.cells (x.arr F) 27)).alloc (.cells #[.int .i64 i, .int .i64 s, .int .i64 a, .int .i64 c] 40) := ⟨_, rfl⟩
 have B0 := hidE (show Below w.heap.size w w0 by rw [hw0]; exact ((Below.refl _ _).alloc (Nat.le_refl _) _).alloc (by simp) _)
 have X0 := hidE (show Kb [(w.heap.size + 1, .cells #[.int .i64 i, .int .i64 s, .int .i64 a, .int .i64 c] 40), (w.heap.size, .cells (x.arr F) 27)] w0 by
  rw [hw0]
  have := Kb.alloc (o := .cells #[.int .i64 i, .int .i64 s, .int .i64 a, .int .i64 c] 40) (Kb.alloc (W := w) (o := .cells (x.arr F) 27) (L := []) trivial)
  simpa using this)
 have HA := hidE (measured_any w0 x F ar cr l i s a c (h.below B0.out) (hr.below B0.out (Nat.le_refl _)) hn hk)
 have hv : ∃ v, ∀ e w', MeasPost w0 x F ar cr l i s a c (matchE F l (flagE (stripB F i s a c))) e w' → ∃ q, e = .returned (.tuple #[q, .agg #[.int .i64 v.1.1, .int .i64 v.1.2.1, .int .i64 v.1.2.2], .int .i64 v.2]) ∧ v = partsE F l i s a c := by
  refine ⟨partsE F l i s a c, fun e w' hm => ?_⟩
  unfold MeasPost at hm
  unfold partsE
  by_cases q : matchE F l (flagE (stripB F i s a c)) = 0
  ·rw [if_pos q] at hm
   obtain ⟨b, o, c9, rfl, _⟩ := hm
   rw [if_neg (by omega), ]
   exact ⟨_, rfl, rfl⟩
  ·rw [if_neg q] at hm
   rw [if_pos q]
   exact ⟨_, hm, rfl⟩
 obtain ⟨⟨⟨p1, p2, p3⟩, er⟩, hv⟩ := hv
 have HV := hidE hv
 have k0 := rowc X0.out.2.1
 have k1 := rowc X0.out.1
 clear hv h hr hn hk
 unfold FV.val FV.arr at *
 go_enter Tryz.func57, Tryz.ntmps57
 go_upto_region 1 with fail
 rw [← hw0]
 clear hw0
 go_wp2_with fail
 refine HA.out.mono ?_
 rintro e w1 ⟨hm, hb1⟩
 obtain ⟨q, rfl, hq⟩ := HV.out e w1 hm
 have HQ := hidE hq
 have B1 := hidE (B0.out.trans (hb1.mono B0.out.size))
 clear hb1 HA k0 k1 hm hq HV
 go_upto_region 2 with (refine wpList_store_row rfl 127 _ _ rfl w1.heap.size #[.int .i64 p1, .int .i64 p2, .int .i64 p3] rfl rfl 127 _ (heap_alloc_new _ _) (by kernel_rfl) rfl (by simp [Value.oneCell']) ?_; rw [World.setRow_alloc_new])
 refine wp_nm ?_
 intro W2 hW2
 have kz := rowc (show W2.heap[w1.heap.size]? = some (.cells #[.int .i64 p1, .int .i64 p2, .int .i64 p3] 127 (0,0)) by rw [hW2]; exact heap_alloc_new _ _)
 have B2 := hidE (show Below w.heap.size w W2 by rw [hW2]; exact B1.out.alloc B1.out.size _)
 clear hW2
 go_quiet (fail)
 go_wp2_with fail
 refine bodyPost_ret (v := .tuple #[.int .i64 p1, .int .i64 p2, .int .i64 p3, .int .i64 er]) (by simp [results, Tryz.results57, go_sem]) rfl ⟨by rw [← HQ.out], B2.out.trans (below_drewN' _ _)⟩
set_option maxRecDepth 10000 in
set_option maxHeartbeats 2000000 in
theorem awardL_any (w : World) (x : FV) (F : Fld) (ar : Option Addr) (cr : Nat) (l : List Rcd) (i s a c : Int) (h : FldAt w x F) (hr : RcdsAt w ar l) (hn : l.length ≤ 100000) (hk : ∀ r ∈ l, (0 ≤ r.call.kind ∧ r.call.kind ≤ 255) ∧ r.deed.size ≤ 9223372036854775807) :
 Calls Tryz.prog 30 #[x.val F, .slice ar l.length cr, .agg #[.int .i64 i, .int .i64 s, .int .i64 a, .int .i64 c]] w fun e w' => e = .returned (.tuple #[.int .u8 (awardE F l i s a c).1, .int .i64 (awardE F l i s a c).2]) ∧ Below w.heap.size w w' := by
 obtain ⟨w0, hw0⟩ : ∃ W, W = (w.alloc (.cells (x.arr F) 27)).alloc (.cells #[.int .i64 i, .int .i64 s, .int .i64 a, .int .i64 c] 40) := ⟨_, rfl⟩
 have B0 := hidE (show Below w.heap.size w w0 by rw [hw0]; exact ((Below.refl _ _).alloc (Nat.le_refl _) _).alloc (by simp) _)
 have X0 := hidE (show Kb [(w.heap.size + 1, .cells #[.int .i64 i, .int .i64 s, .int .i64 a, .int .i64 c] 40), (w.heap.size, .cells (x.arr F) 27)] w0 by
  rw [hw0]
  have := Kb.alloc (o := .cells #[.int .i64 i, .int .i64 s, .int .i64 a, .int .i64 c] 40) (Kb.alloc (W := w) (o := .cells (x.arr F) 27) (L := []) trivial)
  simpa using this)
 have HA := hidE (measured_any w0 x F ar cr l i s a c (h.below B0.out) (hr.below B0.out (Nat.le_refl _)) hn hk)
 have hv : ∃ p1 p2 p3 er : Int, (∀ e w', MeasPost w0 x F ar cr l i s a c (matchE F l (flagE (stripB F i s a c))) e w' → ∃ q, e = .returned (.tuple #[q, .agg #[.int .i64 p1, .int .i64 p2, .int .i64 p3], .int .i64 er])) ∧ (er = 0 → 0 ≤ a ∧ a < c ∧ c ≤ 100000) ∧ awardE F l i s a c = if er ≠ 0 then (0, er) else (if p1 = 0 ∧ p2 = 0 ∧ p3 = c - a then 1 else if p1 = c - a ∧ p2 = 0 ∧ p3 = 0 then 2 else 0, 0) := by
  by_cases q : matchE F l (flagE (stripB F i s a c)) = 0
  ·obtain ⟨q1, q2, q3⟩ := match_zero.1 q
   obtain ⟨q4, q5, q6, q7, q8⟩ := inv_strip q2
   have pb := ptS_bd q4 q5
   have eb := ends_bd q1 q3 pb.1 pb.2.1
   have ap := award_parts (a := a) (b := c) q7 eb.2.1
   obtain ⟨C, hC⟩ : ∃ C, cutP (lowE F l (ptS F i s)) (highE F l (ptS F i s)) a c = C := ⟨_, rfl⟩
   rw [hC] at ap
   refine ⟨C.1, C.2.1, C.2.2, 0, fun e w' hm => ?_, fun _ => ⟨q6, q7, q8⟩, ?_⟩
   ·unfold MeasPost at hm
    rw [if_pos q, hC] at hm
    obtain ⟨b, o, c9, rfl, _⟩ := hm
    exact ⟨_, rfl⟩
   ·unfold awardE
    rw [if_neg (by omega), if_neg (by simp), ← ap]
    simp only [Prod.ext_iff]
  ·refine ⟨0, 0, 0, matchE F l (flagE (stripB F i s a c)), fun e w' hm => ?_, fun z => absurd z q, ?_⟩
   ·unfold MeasPost at hm
    rw [if_neg q] at hm
    exact ⟨_, hm⟩
   ·unfold awardE
    rw [if_pos q, if_pos q]
 obtain ⟨p1, p2, p3, er, hv, hac, hE⟩ := hv
 obtain ⟨A1, A2, hAW⟩ : ∃ A1 A2, awardE F l i s a c = (A1, A2) := ⟨_, _, rfl⟩
 rw [hAW] at hE ⊢
 have HV := hidE hv
 have HE := hidE hE
 have HAC := hidE hac
 have k0 := rowc X0.out.2.1
 have k1 := rowc X0.out.1
 clear hv hE hAW h hr hn hk hac
 unfold FV.val FV.arr at *
 go_enter Tryz.func30, Tryz.ntmps30
 go_upto_region 1 with fail
 rw [← hw0]
 clear hw0
 go_wp2_with fail
 refine HA.out.mono ?_
 rintro e w1 ⟨hm, hb1⟩
 obtain ⟨q, rfl⟩ := HV.out e w1 hm
 have B1 := hidE (B0.out.trans (hb1.mono B0.out.size))
 have X1 := hidE (X0.out.next hb1)
 clear hb1 HA k0 k1 hm HV
 go_upto_region 2 with (refine wpList_store_row rfl 127 _ _ rfl w1.heap.size #[.int .i64 p1, .int .i64 p2, .int .i64 p3] rfl rfl 127 _ (heap_alloc_new _ _) (by kernel_rfl) rfl (by simp [Value.oneCell']) ?_; rw [World.setRow_alloc_new])
 refine wp_nm ?_
 intro W2 hW2
 have kz := rowc (show W2.heap[w1.heap.size]? = some (.cells #[.int .i64 p1, .int .i64 p2, .int .i64 p3] 127 (0,0)) by rw [hW2]; exact heap_alloc_new _ _)
 have hb2 : Below w1.heap.size w1 W2 := by rw [hW2]; exact (Below.refl _ _).alloc (Nat.le_refl _) _
 have B2 := hidE (B1.out.trans (hb2.mono B1.out.size))
 have ks := rowc (X1.out.next hb2).1
 clear hW2 hb2 X1
 by_cases h0 : er = 0
 rotate_left
 ·have hzb : (er != 0) = true := by simpa using h0
  have e1 := HE.out
  rw [if_pos h0] at e1
  cases e1
  clear h0
  go_wp2_with fail
  go_ret2
  exact ⟨rfl, B2.out⟩
 subst h0
 have hac2 := HAC.out rfl
 have wd : IntKind.i64.wrap (c - a) = c - a := IntWalk.i64_in _ (by omega)
 have e1 := HE.out
 rw [if_neg (show ¬ (0 : Int) ≠ 0 by simp)] at e1
 obtain ⟨d, hd⟩ : ∃ d, c - a = d := ⟨_, rfl⟩
 rw [hd] at e1 wd
 have wd2 : IntKind.i64.wrap (c - a) = d := by rw [hd]; exact wd
 clear HE hd hac2 HAC
 by_cases g1 : p1 = 0 ∧ p2 = 0 ∧ p3 = d
 ·rw [if_pos g1] at e1
  obtain ⟨rfl, rfl, rfl⟩ := g1
  cases e1
  go_wp2_with fail
  go_ret2
  exact ⟨rfl, B2.out⟩
 ·rw [if_neg g1] at e1
  have n1 : (p1 == 0 && (p2 == 0 && p3 == d)) = false := by simpa using g1
  by_cases g2 : p1 = d ∧ p2 = 0 ∧ p3 = 0
  ·rw [if_pos g2] at e1
   cases e1
   have n2 : (p1 == d && (p2 == 0 && p3 == 0)) = true := by simpa using g2
   have G1 := hidE g1
   have G2 := hidE g2
   clear g1 g2
   go_wp2_with fail
   all_goals (first | (go_ret2; exact ⟨rfl, B2.out⟩) | (exfalso; have g1 := G1.out; have g2 := G2.out; simp_all; done) | (exfalso; have g1 := G1.out; have g2 := G2.out; simp_all; omega))
  ·rw [if_neg g2] at e1
   cases e1
   have n2 : (p1 == d && (p2 == 0 && p3 == 0)) = false := by simpa using g2
   have G1 := hidE g1
   have G2 := hidE g2
   clear g1 g2
   go_wp2_with fail
   all_goals (first | (go_ret2; exact ⟨rfl, B2.out⟩) | (exfalso; have g1 := G1.out; have g2 := G2.out; simp_all; done) | (exfalso; have g1 := G1.out; have g2 := G2.out; simp_all; omega))
def idleE (F : Fld) (l : List Rcd) : List Int × Int := if matchE F l 0 ≠ 0 then ([], matchE F l 0) else ((l.filter fun r => idleB F l r.id).map Rcd.id, 0)
def idl (F : Fld) (l : List Rcd) (k : Nat) : List Int := ((l.take k).filter fun r => idleB F l r.id).map Rcd.id
theorem idl_all (F : Fld) (l : List Rcd) : idl F l l.length = (l.filter fun r => idleB F l r.id).map Rcd.id := by unfold idl; rw [List.take_length]
theorem idl_succ (F : Fld) (l : List Rcd) {k : Nat} (hk : k < l.length) : idl F l (k + 1) = idl F l k ++ (if idleB F l l[k].id = true then [l[k].id] else []) := by
 unfold idl
 rw [List.take_succ_eq_append_getElem hk, List.filter_append, List.map_append]
 congr 1
 by_cases h : idleB F l l[k].id = true <;> simp [h]
theorem idl_len (F : Fld) (l : List Rcd) (k : Nat) : (idl F l k).length ≤ l.length := by
 unfold idl
 rw [List.length_map]
 exact Nat.le_trans (List.length_filter_le _ _) (List.length_take_le' ..)
theorem withoutP_sys {F : Fld} {l : List Rcd} {id : Int} (hid : id ≠ 0) : withoutP (sysL F l) [id] = sysL F (withoutId l id) := by
 rw [← without_sys hid]
 unfold withoutP
 congr 1
 funext b
 by_cases q : b.rcd = id <;> simp [q]
theorem withoutE_sys {F : Fld} {l : List Rcd} (h : Good F l) {id : Int} (hid : id ≠ 0) : withoutE (ptN F) (sysL F l) [id] = ((ptN F : Int), sysL F (withoutId l id), 0) := by
 unfold withoutE
 rw [if_pos (sys_check h), withoutP_sys hid]
theorem idle_good {F : Fld} {l : List Rcd} (h : Good F l) (ha : agreeB F l = true) (id : Int) : Good F (withoutId l id) ∧ agreeB F (withoutId l id) = true := by
 have g := good_sub h (List.filter_sublist (p := fun r => decide (r.id ≠ id)) (l := l))
 exact ⟨g, agree_sub h g (fun r hr => (List.mem_filter.1 hr).1) ha⟩
theorem dV_fin {F : Fld} {l : List Rcd} (h : Good F l) (ha : agreeB F l = true) {a : Nat} (h1 : a < ptN F) : dV (ptN F) (sysL F l) a = (List.range (ptN F)).map (fun b => distN (ptN F) (sysL F l) a b) ∧ dB (ptN F) (sysL F l) a = (List.range (ptN F)).map (fun _ => true) := by
 have T := tied h ha
 unfold dV dB
 constructor
 ·refine List.map_congr_left fun b hb => ?_
  have := T.fin a b h1 (List.mem_range.1 hb)
  unfold farI at this
  unfold nV
  rw [if_neg (by omega)]
 ·refine List.map_congr_left fun b hb => ?_
  have := T.fin a b h1 (List.mem_range.1 hb)
  unfold farI at this
  unfold nB
  exact decide_eq_true (by omega)
theorem alike_idle {F : Fld} {l : List Rcd} (h : Good F l) (ha : agreeB F l = true) (id : Int) : alikeP (ptN F) (sysL F l) (sysL F (withoutId l id)) = idleB F l id := by
 obtain ⟨g, ga⟩ := idle_good h ha id
 rw [Bool.eq_iff_iff, idle_rows]
 unfold alikeP rowsB
 rw [List.all_eq_true]
 constructor
 ·intro k a q
  have := k a (List.mem_range.2 q)
  rw [(dV_fin h ha q).1, (dV_fin g ga q).1, Bool.and_eq_true, decide_eq_true_eq] at this
  exact this.1.symm
 ·intro k a q
  have q2 := List.mem_range.1 q
  rw [(dV_fin h ha q2).1, (dV_fin g ga q2).1, (dV_fin h ha q2).2, (dV_fin g ga q2).2, k a q2]
  simp
theorem sys_some {F : Fld} {l : List Rcd} (h : Good F l) {w : World} {o : Option Addr} (hB : BoundsAt w o (sysL F l)) (c : Nat) : SliceOk o (sysL F l).length c := by
 intro e
 subst e
 have m : sysL F l ≠ [] := by
  have hp := mul_len h.fld
  have := (nat_mem (F := F) (p := 1) (Nat.le_refl _) (by unfold ptN; omega)).1
  unfold sysL
  intro q
  rw [List.append_eq_nil_iff.1 q |>.1] at this
  cases this
 rcases hB with q | ⟨_, _, e, _⟩
 ·exact absurd q m
 ·cases e
theorem ints_blk1 {W : World} {g : Nat} {x : Int} (h : W.heap[g]? = some (.cells #[.int .i64 x] 3 (0,0))) : IntsAt W (some ⟨g, 0, none⟩) [x] :=
 .inr ⟨g, 0, rfl, lt_of_block h, fun i hi => by
  obtain rfl : i = 0 := by simpa using hi
  exact (rowc h 0).trans rfl⟩
theorem without_world {F : Fld} {l : List Rcd} (h : Good F l) {id : Int} (hid : id ≠ 0) {w : World} {o : Option Addr} {c : Nat} (hc : (sysL F l).length ≤ c ∧ c ≤ 9223372036854775807) (hB : BoundsAt w o (sysL F l)) {a2 : Option Addr} (hi : IntsAt w a2 [id]) :
 Calls Tryz.prog 96 #[.agg #[.int .i64 (ptN F), .slice o (sysL F l).length c], .slice a2 1 1] w fun e w' => (∃ o2 c2, e = .returned (.tuple #[.agg #[.int .i64 (ptN F), .slice o2 (sysL F (withoutId l id)).length c2], .int .i64 0]) ∧ BoundsAt w' o2 (sysL F (withoutId l id)) ∧ ∀ q, o2 = some q → w.heap.size ≤ q.block ∧ q.block < w'.heap.size) ∧ Below w.heap.size w w' := by
 have := withoutS_any w (ptN F) o c (sysL F l) a2 1 [id] (ptN_ok h.fld) (Nat.le_trans hc.1 hc.2) (sys_some h hB c) hB (by simp) hi
 rw [withoutE_sys h hid] at this
 refine this.mono ?_
 rintro e w1 ⟨⟨v, rfl, ho⟩, hb⟩
 obtain ⟨o2, c2, rfl, hB2, -⟩ := boundsAt_of_out ho
 refine ⟨⟨o2, c2, rfl, hB2, fun q e => ?_⟩, hb⟩
 subst e
 obtain ⟨q1, q2, -⟩ := owns_lt ho (g := q.block) rfl
 exact ⟨q2, q1⟩
theorem alike_world {F : Fld} {l : List Rcd} (h : Good F l) (ha : agreeB F l = true) (id : Int) {w : World} {o o2 : Option Addr} {c c2 : Nat} (hc : (sysL F l).length ≤ c ∧ c ≤ 9223372036854775807) (hB : BoundsAt w o (sysL F l)) (hB2 : BoundsAt w o2 (sysL F (withoutId l id))) :
 Calls Tryz.prog 97 #[.agg #[.int .i64 (ptN F), .slice o (sysL F l).length c], .agg #[.int .i64 (ptN F), .slice o2 (sysL F (withoutId l id)).length c2]] w fun e w' => e = .returned (.bool (idleB F l id)) ∧ Below w.heap.size w w' := by
 obtain ⟨g, ga⟩ := idle_good h ha id
 have q := sys_len g
 have := alike_any w (ptN F) (pt_le h.fld).2 o c (sysL F l) o2 c2 (sysL F (withoutId l id)) (Nat.le_trans hc.1 hc.2) (by omega) hB hB2
  (fun a k => by rw [asked_ok h (by simp; omega), if_pos ha]) (fun a k => by rw [asked_ok g (by simp; omega), if_pos ga])
 rw [alike_idle h ha] at this
 exact this
set_option maxRecDepth 10000 in
set_option maxHeartbeats 4000000 in
theorem idleL_any (w : World) (x : FV) (F : Fld) (ar : Option Addr) (cr : Nat) (l : List Rcd) (h : FldAt w x F) (hr : RcdsAt w ar l) (hn : l.length ≤ 100000) (hk : ∀ r ∈ l, (0 ≤ r.call.kind ∧ r.call.kind ≤ 255) ∧ r.deed.size ≤ 9223372036854775807) :
 Calls Tryz.prog 37 #[x.val F, .slice ar l.length cr] w fun e w' => PathPost (idleE F l).1 (idleE F l).2 w.heap.size e w' ∧ Below w.heap.size w w' := by
 obtain ⟨w0, hw0⟩ : ∃ W, W = w.alloc (.cells (x.arr F) 27) := ⟨_, rfl⟩
 have B0 := hidE (show Below w.heap.size w w0 by rw [hw0]; exact (Below.refl _ _).alloc (Nat.le_refl _) _)
 have X0 := hidE (show w0.heap[w.heap.size]? = some (.cells (x.arr F) 27 (0,0)) by rw [hw0]; exact heap_alloc_new _ _)
 have HA := hidE (agreed_any w0 x F ar cr l (h.below B0.out) (hr.below B0.out (Nat.le_refl _)) hn hk 95 #[] true (enters_of Tryz.func95 (by kernel_rfl) rfl) (fun hg W b o c hw hb => anything_any W _))
 rw [show flagE true = 0 from rfl] at HA
 have HRR := hidE (fun W (hb : Below w.heap.size w W) => hr.below hb (Nat.le_refl _))
 obtain ⟨⟨R1, R2⟩, hR⟩ : ∃ R, idleE F l = R := ⟨_, rfl⟩
 rw [hR]
 unfold idleE at hR
 rw [← idl_all] at hR
 have HMZ := hidE (fun (q : matchE F l 0 = 0) => match_zero.1 q)
 obtain ⟨M, hM⟩ : ∃ M, matchE F l 0 = M := ⟨_, rfl⟩
 rw [hM] at HA hR HMZ
 have HR := hidE hR
 have HNL := hidE hn
 have kk := rowc X0.out
 clear hM h hr hn hk hR
 unfold FV.val FV.arr at *
 go_enter Tryz.func37, Tryz.ntmps37
 go_upto_region 1 with fail
 rw [← hw0]
 clear hw0
 go_wp2_with fail
 refine HA.out.mono ?_
 rintro e w1 ⟨hp, hb1⟩
 have B1 := hidE (B0.out.trans (hb1.mono B0.out.size))
 clear hb1 HA kk X0
 unfold AgreedPost at hp
 by_cases h0 : M = 0
 rotate_left
 ·have hzb : (M != 0) = true := by simpa using h0
  rw [if_neg h0] at hp
  have hq := HR.out
  rw [if_pos h0] at hq
  obtain ⟨v, rfl⟩ := hp
  cases hq
  clear h0 HR HMZ
  go_wp2_with fail
  refine bodyPost_ret (v := .tuple #[.slice none 0 0, .int .i64 R2]) (by simp [results, Tryz.results37, go_sem]) rfl ⟨⟨_, rfl, World.ownsRow_nil _ _ _ _⟩, B1.out⟩
 subst h0
 rw [if_pos rfl] at hp
 have hq := HR.out
 rw [if_neg (by simp)] at hq
 obtain ⟨b, o, c, rfl, hw, hbl⟩ := hp
 obtain ⟨q1, q2, q3⟩ := HMZ.out rfl
 have HW := hidE hw
 have HCAP := hidE hw.cap
 have HID := hidE (fun r (hr : r ∈ l) => right_id (q1.each r hr).1)
 have HWO := hidE (fun W (hb : Below w1.heap.size w1 W) id (hid : id ≠ 0) a2 (hi : IntsAt W a2 [id]) => without_world q1 hid HCAP.out (hw.bnd.below hb (Nat.le_refl _)) hi)
 have HAL := hidE (fun W (hb : Below w1.heap.size w1 W) id o2 c2 (hB2 : BoundsAt W o2 (sysL F (withoutId l id))) => alike_world (c2 := c2) q1 q3 id HCAP.out (hw.bnd.below hb (Nat.le_refl _)) hB2)
 have HKX := hidE (fun W (hb : Below w1.heap.size w1 W) => rowc (hw.next hb).box)
 obtain ⟨P, hP⟩ : ∃ P : Int, ((ptN F : Nat) : Int) = P := ⟨_, rfl⟩
 obtain ⟨LN, hLN⟩ : ∃ n, (sysL F l).length = n := ⟨_, rfl⟩
 unfold WV.arr at HKX
 rw [hP, hLN] at HWO HAL HKX
 cases hq
 clear hP hLN q1 q2 q3 hw hbl HR HMZ HCAP
 go_wp2_with fail
 go_loopw [8, 24] (fun v p wr => ∃ (k : Nat), k ≤ l.length ∧ p = .int .i64 (k : Int) ∧ Hid (wr.ownsRow w1.heap.size 3 1 v (idl F l k).length (intsV (idl F l k))) ∧ Hid (Below w1.heap.size w1 wr)) (fun _ p _ => l.length - (intOf p).toNat)
 case atStart => exact ⟨0, Nat.zero_le _, rfl, hidE (World.ownsRow_nil _ _ _ _), hidE (Below.refl _ _)⟩
 case round =>
  obtain ⟨k, hkl, rfl, HO, HB⟩ := hrel
  have HNL2 := HNL.out
  by_cases hlt : k < l.length
  rotate_left
  ·obtain rfl : k = l.length := by omega
   go_wp2_with fail
   refine bodyPost_ret (v := .tuple #[u8, .int .i64 0]) (by simp [results, Tryz.results37, go_sem]) rfl ⟨⟨_, rfl, ownsRow_base HO.out B1.out.size⟩, B1.out.trans (HB.out.mono B1.out.size)⟩
  have HS := hidE (idl_succ F l hlt)
  have HL := hidE (idl_len F l k)
  have HIK := hidE (HID.out l[k] (List.getElem_mem hlt))
  obtain ⟨rb, ro, e1, hbl, hcc⟩ := RecsAt.at (HRR.out wr (B1.out.trans (HB.out.mono B1.out.size))) hlt
  have HCC := hidE (range_of_recs hcc)
  obtain ⟨r, hr⟩ : ∃ r, l[k] = r := ⟨_, rfl⟩
  rw [hr] at HS HIK HCC
  subst e1
  clear hr hcc hbl HID
  obtain ⟨wA, rfl⟩ : ∃ z : World, z = wr := ⟨wr, rfl⟩
  go_upto_region 7 with fail
  refine wp_region_list ?_
  go_upto_region 8 with (first | (refine wpList_load_mid rfl 50 _ rfl rb (ro + k * 18) rfl _ _ HCC.out Tryz.underlying50 rfl (by kernel_rfl) ?_) | (refine wpList_store_row rfl 50 _ _ rfl wA.heap.size r.vals rfl rfl 50 _ (heap_alloc_new _ _) (by kernel_rfl) (by kernel_rfl) (by simp [Rcd.vals, Value.oneCell']) ?_; rw [World.setRow_alloc_new]))
  refine wp_nm ?_
  intro W2 hW2
  have hb2 : Below wA.heap.size wA W2 := by rw [hW2]; exact (Below.refl _ _).alloc (Nat.le_refl _) _
  have X2 := hidE (show W2.heap[wA.heap.size]? = some (.cells r.vals 50 (0,0)) by rw [hW2]; exact heap_alloc_new _ _)
  have B2 := hidE (HB.out.trans (hb2.mono HB.out.size))
  have HO2 := hidE (ownsRow_kept0 HO.out hb2)
  obtain ⟨A, hA⟩ : ∃ A, wA.heap.size = A := ⟨_, rfl⟩
  rw [hA] at X2 ⊢
  clear hW2 hb2 HO HCC hA
  obtain ⟨id, hid⟩ : ∃ z, r.id = z := ⟨_, rfl⟩
  have HRID := hidE hid
  rw [hid] at HS HIK
  have HWI := hidE (fun W (hb : Below w1.heap.size w1 W) a2 hi => HWO.out W hb id (by have := HIK.out; omega) a2 hi)
  have HAI := hidE (fun W (hb : Below w1.heap.size w1 W) o2 c2 hi => HAL.out W hb id o2 c2 hi)
  obtain ⟨Z, hZ⟩ : ∃ z, sysL F (withoutId l id) = z := ⟨_, rfl⟩
  obtain ⟨ib, hib⟩ : ∃ z, idleB F l id = z := ⟨_, rfl⟩
  rw [hZ] at HWI HAI
  rw [hib] at HAI HS
  obtain ⟨LZ, hLZ⟩ : ∃ z, Z.length = z := ⟨_, rfl⟩
  rw [hLZ] at HWI HAI
  clear hid hZ hib hLZ
  simp only [Act.put]
  go_cut [11, 12] (fun t _ wx => ∃ g o2 c2, t = .pointer (some ⟨g, 0, none⟩) ∧ Hid (wx.heap[g]? = some (.cells #[.int .i64 P, .slice o2 LZ c2] 61 (0,0))) ∧ Hid (BoundsAt wx o2 Z) ∧ Hid (Below W2.heap.size W2 wx))
  case first =>
   refine wp_region_F (S := Below W2.heap.size W2) (last := 100) (by kernel_rfl) ?_
   obtain ⟨W0, hW0⟩ : ∃ W, W = W2.drew := ⟨_, rfl⟩
   have hS0 : Below W2.heap.size W2 W0 := by rw [hW0]; exact (Below.refl _ _).drew
   rw [← hW0]
   clear hW0
   refine tF 0 29 (.pointer (some ⟨b, 0, none⟩)) rfl (by kernel_rfl) rfl (fun _ _ _ h => h) (fun V hV => ?_) hS0 ?_
   ·simp [go_sem, execOp]
   try simp only [sA, sB, sC]
   refine tF 1 30 (.pointer (some ⟨b, 0, none⟩)) rfl (by kernel_rfl) rfl (fun _ _ _ h => h) (fun V hV => ?_) hS0 ?_
   ·simp [go_sem, execOp]
   try simp only [sA, sB, sC]
   refine tF 2 31 (.pointer (some ⟨b, 0, none⟩)) rfl (by kernel_rfl) rfl (fun _ _ _ h => h) (fun V hV => ?_) hS0 ?_
   ·simp [go_sem, execOp]
   try simp only [sA, sB, sC]
   refine tF 3 32 (.agg #[.int .i64 P, .slice o LN c]) rfl (by kernel_rfl) rfl (fun _ _ _ h => h) (fun V hV => ?_) hS0 ?_
   ·(have z0 : V.cell? ⟨b, 0, none⟩ = some (.int .i64 P) := (HKX.out V (B2.out.trans (hV.mono B2.out.size)) 0).trans rfl; have z1 : V.cell? ⟨b, 1, none⟩ = some (.slice o LN c) := (HKX.out V (B2.out.trans (hV.mono B2.out.size)) 1).trans rfl; simp [go_sem, execOp, z0, z1])
   try simp only [sA, sB, sC]
   refine tF 4 33 (.pointer (some ⟨A, 0, none⟩)) rfl (by kernel_rfl) rfl (fun _ _ _ h => h) (fun V hV => ?_) hS0 ?_
   ·simp [go_sem, execOp]
   try simp only [sA, sB, sC]
   refine tF 5 34 (.int .i64 id) rfl (by kernel_rfl) rfl (fun _ _ _ h => h) (fun V hV => ?_) hS0 ?_
   ·(have z : V.cell? ⟨A, 0, none⟩ = some (.int .i64 r.id) := ce (i := 0) (blk_below hV (lt_of_block X2.out) X2.out) rfl; rw [← HRID.out]; simp [go_sem, execOp, z])
   try simp only [sA, sB, sC]
   refine wpAnyF_two 6 11 rfl rfl (by kernel_rfl) (fun K hK => ?_) (fun K hK => ?_)
   ·go_simp
    obtain ⟨wq1, hW1⟩ : ∃ Z, Z = W0.alloc (.cells #[.int .i64 id] 3) := ⟨_, rfl⟩
    rw [← hW1]
    have hb1 : Below W0.heap.size W0 wq1 := by rw [hW1]; exact (Below.refl _ _).alloc (Nat.le_refl _) _
    have hS1 : Below W2.heap.size W2 wq1 := hS0.trans (hb1.mono hS0.size)
    have XI : wq1.heap[W0.heap.size]? = some (.cells #[.int .i64 id] 3 (0,0)) := by rw [hW1]; exact heap_alloc_new _ _
    have XIge : W2.heap.size ≤ W0.heap.size := hS0.size
    obtain ⟨gi, hgi⟩ : ∃ g, W0.heap.size = g := ⟨_, rfl⟩
    rw [hgi] at XI XIge ⊢
    clear hW1 hgi hb1
    refine hK.out _ _ (.inr hS1) ?_
    clear hK K
    try simp only [Act.put, sA, sB, sC]
    refine wpAnyF_two 7 11 rfl rfl (by kernel_rfl) (fun K hK => ?_) (fun K hK => ?_)
    ·go_simp
     go_at_call 96
     refine (HWI.out _ (B2.out.trans (hS1.mono B2.out.size)) _ (ints_blk1 XI)).mono ?_
     rintro e wq2 ⟨⟨o2, c2, rfl, HZ, HQ⟩, hb2⟩
     have hS2 : Below W2.heap.size W2 wq2 := hS1.trans (hb2.mono hS1.size)
     replace XI := blk_below hb2 (lt_of_block XI) XI
     clear hb2
     go_wp2_with fail
     refine hK.out _ _ (.inr hS2) ?_
     clear hK K
     try simp only [Act.put, sA, sB, sC]
     refine tF 8 28 (.tuple #[.agg #[.int .i64 P, .slice o2 LZ c2], .int .i64 0]) rfl (by kernel_rfl) rfl (fun _ _ _ h => h) (fun V hV => ?_) hS2 ?_
     ·simp [go_sem, execOp]
     try simp only [sA, sB, sC]
     refine tF 9 37 (.agg #[.int .i64 P, .slice o2 LZ c2]) rfl (by kernel_rfl) rfl (fun _ _ _ h => h) (fun V hV => ?_) hS2 ?_
     ·simp [go_sem, execOp]
     try simp only [sA, sB, sC]
     refine tF 10 38 (.int .i64 0) rfl (by kernel_rfl) rfl (fun _ _ _ h => h) (fun V hV => ?_) hS2 ?_
     ·simp [go_sem, execOp]
     try simp only [sA, sB, sC]
     refine wpAnyF_step 11 rfl (by kernel_rfl) (fun K hK => ?_)
     go_simp
     obtain ⟨wq3, hW3⟩ : ∃ Z, Z = wq2.alloc (.cells #[.int .i64 0, .slice none 0 0] 61) := ⟨_, rfl⟩
     rw [← hW3]
     have hb3 : Below wq2.heap.size wq2 wq3 := by rw [hW3]; exact (Below.refl _ _).alloc (Nat.le_refl _) _
     have hS3 : Below W2.heap.size W2 wq3 := hS2.trans (hb3.mono hS2.size)
     replace XI := blk_below hb3 (lt_of_block XI) XI
     replace HZ := HZ.below hb3 (Nat.le_refl _)
     have XG : wq3.heap[wq2.heap.size]? = some (.cells #[.int .i64 0, .slice none 0 0] 61 (0,0)) := by rw [hW3]; exact heap_alloc_new _ _
     have XGge : W2.heap.size ≤ wq2.heap.size := hS2.size
     obtain ⟨g, hg⟩ : ∃ g, wq2.heap.size = g := ⟨_, rfl⟩
     rw [hg] at XG XGge ⊢
     have HNE : ∀ q, o2 = some q → q.block ≠ g := fun q e => by have := (HQ q e).2; omega
     clear hW3 hg hb3
     refine hK.out _ _ (.inr hS3) ?_
     clear hK K
     try simp only [Act.put, sA, sB, sC]
     refine wpAnyF_step 12 rfl (by kernel_rfl) (fun K hK => ?_)
     refine Eq.mpr (if_pos (by kernel_rfl)) ?_
     refine wp_store_row 61 _ _ rfl g #[.int .i64 P, .slice o2 LZ c2] rfl rfl 61 _ XG (by kernel_rfl) rfl (by simp [Value.oneCell']) ?_
     have XF := setRow_heap _ _ _ #[.int .i64 P, .slice o2 LZ c2] _ _ XG
     have hSF := below_setRow (cs := #[.int .i64 P, .slice o2 LZ c2]) hS3 XGge
     have HZF := bounds_setRow HZ HNE #[.int .i64 P, .slice o2 LZ c2]
     refine hK.out _ _ (.inr hSF) ?_
     clear hK K
     try simp only [Act.put, sA]
     refine tF 13 12 (.int .i64 0) rfl (by kernel_rfl) rfl (fun _ _ _ h => h) (fun V hV => ?_) hSF ?_
     ·simp [go_sem, execOp]
     try simp only [sA, sB, sC]
     refine wpAnyF_done (by kernel_rfl) ?_ _
     go_wp2_with fail
     go_meet
     exact ⟨g, o2, c2, rfl, hidE XF, hidE HZF, hidE hSF⟩
    ·go_simp
     obtain ⟨wq2, hW2⟩ : ∃ Z, Z = wq1.alloc (.cells #[.int .i64 0, .slice none 0 0] 61) := ⟨_, rfl⟩
     rw [← hW2]
     have hb2 : Below wq1.heap.size wq1 wq2 := by rw [hW2]; exact (Below.refl _ _).alloc (Nat.le_refl _) _
     have hS2 : Below W2.heap.size W2 wq2 := hS1.trans (hb2.mono hS1.size)
     replace XI := blk_below hb2 (lt_of_block XI) XI
     have XG : wq2.heap[wq1.heap.size]? = some (.cells #[.int .i64 0, .slice none 0 0] 61 (0,0)) := by rw [hW2]; exact heap_alloc_new _ _
     have XGge : W2.heap.size ≤ wq1.heap.size := hS1.size
     obtain ⟨g, hg⟩ : ∃ g, wq1.heap.size = g := ⟨_, rfl⟩
     rw [hg] at XG XGge ⊢
     clear hW2 hg hb2
     refine hK.out _ _ (.inr hS2) ?_
     clear hK K
     try simp only [Act.put, sA, sB, sC]
     refine wpAnyF_step 7 rfl (by kernel_rfl) (fun K hK => ?_)
     have XGb := lt_of_block XG
     go_simp
     go_at_call 96
     refine (HWI.out _ (B2.out.trans (hS2.mono B2.out.size)) _ (ints_blk1 XI)).mono ?_
     rintro e wq3 ⟨⟨o2, c2, rfl, HZ, HQ⟩, hb3⟩
     have hS3 : Below W2.heap.size W2 wq3 := hS2.trans (hb3.mono hS2.size)
     replace XI := blk_below hb3 (lt_of_block XI) XI
     replace XG := blk_below hb3 (lt_of_block XG) XG
     have HNE : ∀ q, o2 = some q → q.block ≠ g := fun q e => by have := (HQ q e).1; omega
     clear XGb
     clear hb3
     go_wp2_with fail
     refine hK.out _ _ (.inr hS3) ?_
     clear hK K
     try simp only [Act.put, sA, sB, sC]
     refine tF 8 28 (.tuple #[.agg #[.int .i64 P, .slice o2 LZ c2], .int .i64 0]) rfl (by kernel_rfl) rfl (fun _ _ _ h => h) (fun V hV => ?_) hS3 ?_
     ·simp [go_sem, execOp]
     try simp only [sA, sB, sC]
     refine tF 9 37 (.agg #[.int .i64 P, .slice o2 LZ c2]) rfl (by kernel_rfl) rfl (fun _ _ _ h => h) (fun V hV => ?_) hS3 ?_
     ·simp [go_sem, execOp]
     try simp only [sA, sB, sC]
     refine tF 10 38 (.int .i64 0) rfl (by kernel_rfl) rfl (fun _ _ _ h => h) (fun V hV => ?_) hS3 ?_
     ·simp [go_sem, execOp]
     try simp only [sA, sB, sC]
     refine wpAnyF_step 12 rfl (by kernel_rfl) (fun K hK => ?_)
     refine Eq.mpr (if_pos (by kernel_rfl)) ?_
     refine wp_store_row 61 _ _ rfl g #[.int .i64 P, .slice o2 LZ c2] rfl rfl 61 _ XG (by kernel_rfl) rfl (by simp [Value.oneCell']) ?_
     have XF := setRow_heap _ _ _ #[.int .i64 P, .slice o2 LZ c2] _ _ XG
     have hSF := below_setRow (cs := #[.int .i64 P, .slice o2 LZ c2]) hS3 XGge
     have HZF := bounds_setRow HZ HNE #[.int .i64 P, .slice o2 LZ c2]
     refine hK.out _ _ (.inr hSF) ?_
     clear hK K
     try simp only [Act.put, sA]
     refine tF 13 12 (.int .i64 0) rfl (by kernel_rfl) rfl (fun _ _ _ h => h) (fun V hV => ?_) hSF ?_
     ·simp [go_sem, execOp]
     try simp only [sA, sB, sC]
     refine wpAnyF_done (by kernel_rfl) ?_ _
     go_wp2_with fail
     go_meet
     exact ⟨g, o2, c2, rfl, hidE XF, hidE HZF, hidE hSF⟩
   ·go_simp
    obtain ⟨wq1, hW1⟩ : ∃ Z, Z = W0.alloc (.cells #[.int .i64 0, .slice none 0 0] 61) := ⟨_, rfl⟩
    rw [← hW1]
    have hb1 : Below W0.heap.size W0 wq1 := by rw [hW1]; exact (Below.refl _ _).alloc (Nat.le_refl _) _
    have hS1 : Below W2.heap.size W2 wq1 := hS0.trans (hb1.mono hS0.size)
    have XG : wq1.heap[W0.heap.size]? = some (.cells #[.int .i64 0, .slice none 0 0] 61 (0,0)) := by rw [hW1]; exact heap_alloc_new _ _
    have XGge : W2.heap.size ≤ W0.heap.size := hS0.size
    obtain ⟨g, hg⟩ : ∃ g, W0.heap.size = g := ⟨_, rfl⟩
    rw [hg] at XG XGge ⊢
    clear hW1 hg hb1
    refine hK.out _ _ (.inr hS1) ?_
    clear hK K
    try simp only [Act.put, sA, sB, sC]
    refine wpAnyF_step 6 rfl (by kernel_rfl) (fun K hK => ?_)
    go_simp
    obtain ⟨wq2, hW2⟩ : ∃ Z, Z = wq1.alloc (.cells #[.int .i64 id] 3) := ⟨_, rfl⟩
    rw [← hW2]
    have hb2 : Below wq1.heap.size wq1 wq2 := by rw [hW2]; exact (Below.refl _ _).alloc (Nat.le_refl _) _
    have hS2 : Below W2.heap.size W2 wq2 := hS1.trans (hb2.mono hS1.size)
    replace XG := blk_below hb2 (lt_of_block XG) XG
    have XI : wq2.heap[wq1.heap.size]? = some (.cells #[.int .i64 id] 3 (0,0)) := by rw [hW2]; exact heap_alloc_new _ _
    have XIge : W2.heap.size ≤ wq1.heap.size := hS1.size
    obtain ⟨gi, hgi⟩ : ∃ g, wq1.heap.size = g := ⟨_, rfl⟩
    rw [hgi] at XI XIge ⊢
    clear hW2 hgi hb2
    refine hK.out _ _ (.inr hS2) ?_
    clear hK K
    try simp only [Act.put, sA, sB, sC]
    refine wpAnyF_step 7 rfl (by kernel_rfl) (fun K hK => ?_)
    have XGb := lt_of_block XG
    go_simp
    go_at_call 96
    refine (HWI.out _ (B2.out.trans (hS2.mono B2.out.size)) _ (ints_blk1 XI)).mono ?_
    rintro e wq3 ⟨⟨o2, c2, rfl, HZ, HQ⟩, hb3⟩
    have hS3 : Below W2.heap.size W2 wq3 := hS2.trans (hb3.mono hS2.size)
    replace XG := blk_below hb3 (lt_of_block XG) XG
    replace XI := blk_below hb3 (lt_of_block XI) XI
    have HNE : ∀ q, o2 = some q → q.block ≠ g := fun q e => by have := (HQ q e).1; omega
    clear XGb
    clear hb3
    go_wp2_with fail
    refine hK.out _ _ (.inr hS3) ?_
    clear hK K
    try simp only [Act.put, sA, sB, sC]
    refine tF 8 28 (.tuple #[.agg #[.int .i64 P, .slice o2 LZ c2], .int .i64 0]) rfl (by kernel_rfl) rfl (fun _ _ _ h => h) (fun V hV => ?_) hS3 ?_
    ·simp [go_sem, execOp]
    try simp only [sA, sB, sC]
    refine tF 9 37 (.agg #[.int .i64 P, .slice o2 LZ c2]) rfl (by kernel_rfl) rfl (fun _ _ _ h => h) (fun V hV => ?_) hS3 ?_
    ·simp [go_sem, execOp]
    try simp only [sA, sB, sC]
    refine tF 10 38 (.int .i64 0) rfl (by kernel_rfl) rfl (fun _ _ _ h => h) (fun V hV => ?_) hS3 ?_
    ·simp [go_sem, execOp]
    try simp only [sA, sB, sC]
    refine wpAnyF_step 12 rfl (by kernel_rfl) (fun K hK => ?_)
    refine Eq.mpr (if_pos (by kernel_rfl)) ?_
    refine wp_store_row 61 _ _ rfl g #[.int .i64 P, .slice o2 LZ c2] rfl rfl 61 _ XG (by kernel_rfl) rfl (by simp [Value.oneCell']) ?_
    have XF := setRow_heap _ _ _ #[.int .i64 P, .slice o2 LZ c2] _ _ XG
    have hSF := below_setRow (cs := #[.int .i64 P, .slice o2 LZ c2]) hS3 XGge
    have HZF := bounds_setRow HZ HNE #[.int .i64 P, .slice o2 LZ c2]
    refine hK.out _ _ (.inr hSF) ?_
    clear hK K
    try simp only [Act.put, sA]
    refine tF 13 12 (.int .i64 0) rfl (by kernel_rfl) rfl (fun _ _ _ h => h) (fun V hV => ?_) hSF ?_
    ·simp [go_sem, execOp]
    try simp only [sA, sB, sC]
    refine wpAnyF_done (by kernel_rfl) ?_ _
    go_wp2_with fail
    go_meet
    exact ⟨g, o2, c2, rfl, hidE XF, hidE HZF, hidE hSF⟩
  case rest =>
  obtain ⟨g, o2, c2, rfl, HG, HZ, HB3⟩ := hcut
  obtain ⟨W3, rfl⟩ : ∃ x : World, x = wc := ⟨wc, rfl⟩
  have B3 := hidE (B2.out.trans (HB3.out.mono B2.out.size))
  have X3 := hidE (blk_below HB3.out (lt_of_block X2.out) X2.out)
  have HO3 := hidE (ownsRow_kept0 HO2.out HB3.out)
  clear HB3 X2 HO2 B2
  have XG := HG.out
  have HZ3 := HZ.out
  have kx3 := HKX.out W3 B3.out
  clear HG HZ
  go_upto_region 9 with fail
  go_cut [44] (fun t wx => t = .bool ib ∧ Hid (Below W3.heap.size W3 wx))
  case first =>
   refine wp_region_F (S := Below W3.heap.size W3) (last := 100) (by kernel_rfl) ?_
   obtain ⟨W0, hW0⟩ : ∃ W, W = W3.drew := ⟨_, rfl⟩
   have hS0 : Below W3.heap.size W3 W0 := by rw [hW0]; exact (Below.refl _ _).drew
   rw [← hW0]
   clear hW0
   refine tF 0 39 (.pointer (some ⟨b, 0, none⟩)) rfl (by kernel_rfl) rfl (fun _ _ _ h => h) (fun V hV => ?_) hS0 ?_
   ·simp [go_sem, execOp]
   try simp only [sA, sB, sC]
   refine tF 1 40 (.pointer (some ⟨b, 0, none⟩)) rfl (by kernel_rfl) rfl (fun _ _ _ h => h) (fun V hV => ?_) hS0 ?_
   ·simp [go_sem, execOp]
   try simp only [sA, sB, sC]
   refine tF 2 41 (.pointer (some ⟨b, 0, none⟩)) rfl (by kernel_rfl) rfl (fun _ _ _ h => h) (fun V hV => ?_) hS0 ?_
   ·simp [go_sem, execOp]
   try simp only [sA, sB, sC]
   refine tF 3 42 (.agg #[.int .i64 P, .slice o LN c]) rfl (by kernel_rfl) rfl (fun _ _ _ h => h) (fun V hV => ?_) hS0 ?_
   ·(have z0 : V.cell? ⟨b, 0, none⟩ = some (.int .i64 P) := (HKX.out V (B3.out.trans (hV.mono B3.out.size)) 0).trans rfl; have z1 : V.cell? ⟨b, 1, none⟩ = some (.slice o LN c) := (HKX.out V (B3.out.trans (hV.mono B3.out.size)) 1).trans rfl; simp [go_sem, execOp, z0, z1])
   try simp only [sA, sB, sC]
   refine tF 4 43 (.agg #[.int .i64 P, .slice o2 LZ c2]) rfl (by kernel_rfl) rfl (fun _ _ _ h => h) (fun V hV => ?_) hS0 ?_
   ·exact yload rfl rfl (blk_below hV (lt_of_block XG) XG) Tryz.underlying61 rfl (by kernel_rfl)
   try simp only [sA, sB, sC]
   refine wpAnyF_step 5 rfl (by kernel_rfl) (fun K hK => ?_)
   go_simp
   go_at_call 97
   refine (HAI.out _ (B3.out.trans (hS0.mono B3.out.size)) _ _ (HZ3.below hS0 (Nat.le_refl _))).mono ?_
   rintro e wq1 ⟨rfl, hb1⟩
   have hS1 : Below W3.heap.size W3 wq1 := hS0.trans (hb1.mono hS0.size)
   clear hb1
   go_wp2_with fail
   refine hK.out _ _ (.inr hS1) ?_
   clear hK K
   try simp only [Act.put, sA, sB, sC]
   refine wpAnyF_done (by kernel_rfl) ?_ _
   go_wp2_with fail
   go_meet
   exact ⟨rfl, hidE hS1⟩
  case rest =>
  obtain ⟨rfl, HB4⟩ := hcut
  obtain ⟨W4, rfl⟩ : ∃ x : World, x = wc := ⟨wc, rfl⟩
  have B4 := hidE (B3.out.trans (HB4.out.mono B3.out.size))
  have X4 := hidE (blk_below HB4.out (lt_of_block X3.out) X3.out)
  have HO4 := hidE (ownsRow_kept0 HO3.out HB4.out)
  clear HB4 X3 HO3 B3 XG HZ3 kx3
  have hS := HS.out
  cases ib
  ·rw [if_neg (by simp), List.append_nil] at hS
   rw [← hS] at HO4
   go_wp2_with fail
   go_roundw
   case rel => exact ⟨k + 1, by omega, by go_num, HO4, B4⟩
   case measure => simp [intOf]; omega
  ·rw [if_pos rfl] at hS
   obtain ⟨v', W5, hrun, ho5, hb5, -⟩ := append_int HO4.out id (by have := HL.out; have := HNL.out; omega) B4.out.size
   rw [← hS] at ho5
   have HRUN := hidE hrun
   have HO5 := hidE ho5
   have B5 := hidE (B4.out.trans hb5)
   have ka := rowc X4.out
   have kid : W4.cell? ⟨A, 0, none⟩ = some (.int .i64 id) := by rw [← HRID.out]; exact (ka 0).trans rfl
   clear hrun ho5 hb5 hS HO4 B4 X4 ka
   go_wp2_with (at_builtin; refine wpList_op_append rfl (s := .tmp 45) (x := .tmp 48) (t := 52) rfl rfl rfl HRUN.out ?_)
   go_roundw
   case rel => exact ⟨k + 1, by omega, by go_num, HO5, B5⟩
   case measure => simp [intOf]; omega
def whyP (F : Fld) (l : List Rcd) (p : Nat) (upper : Bool) : List Int :=
 recordsP ((if upper = true then pathP (ptN F) (sysL F l) 0 p else pathP (ptN F) (sysL F l) p 0).map (bAt (sysL F l)))
def whyE (F : Fld) (l : List Rcd) (i s : Int) (upper : Bool) : List Int × Int :=
 if matchE F l (flagE (cornB F i s)) ≠ 0 then ([], matchE F l (flagE (cornB F i s))) else (whyP F l (ptS F i s) upper, 0)
set_option maxRecDepth 10000 in
set_option maxHeartbeats 2000000 in
theorem why1_any (W : World) (b g : Nat) (y : WV) (F : Fld) (l : List Rcd) (i s : Int) (h : WAt W b y F l) (hF : F.check = 0) (hg : W.heap[g]? = some (.cells #[.int .i64 i, .int .i64 s] 30 (0,0))) :
 Calls Tryz.prog 113 #[.pointer (some ⟨b, 0, none⟩), .pointer (some ⟨g, 0, none⟩)] W fun e w' => e = .returned (.bool (cornB F i s)) ∧ Below W.heap.size W w' := by
 have HC := hidE (corner_any W b y F l i s h hF)
 have kk := rowc hg
 clear h hF hg
 go_enter Tryz.func113, Tryz.ntmps113
 go_wp2_with fail
 refine HC.out.mono ?_
 rintro e w1 ⟨rfl, hb1⟩
 go_wp2_with fail
 go_ret
 exact ⟨rfl, hb1⟩
theorem path_world {F : Fld} {l : List Rcd} (h : Good F l) (ha : agreeB F l = true) {a b : Nat} (h1 : a < ptN F) (h2 : b < ptN F) {w : World} {o : Option Addr} {c : Nat} (hc : (sysL F l).length ≤ c ∧ c ≤ 9223372036854775807) (hB : BoundsAt w o (sysL F l)) :
 Calls Tryz.prog 114 #[.agg #[.int .i64 (ptN F), .slice o (sysL F l).length c], .int .i64 (a : Int), .int .i64 (b : Int)] w fun e w' => (∃ a2 c2, e = .returned (.tuple #[.slice a2 (pathP (ptN F) (sysL F l) a b).length c2, .int .i64 0]) ∧ IntsAt w' a2 (pathP (ptN F) (sysL F l) a b)) ∧ Below w.heap.size w w' := by
 have := path_any w (ptN F) o c (sysL F l) a b (ptN_ok h.fld) (Nat.le_trans hc.1 hc.2) hB
 rw [(why_path h ha h1 h2).1] at this
 refine this.mono ?_
 rintro e w1 ⟨⟨v, rfl, ho⟩, hb⟩
 obtain ⟨a2, c2, rfl, hin⟩ := owns_intsAt ho
 exact ⟨⟨a2, c2, rfl, hin⟩, hb⟩
theorem records_world {F : Fld} {l : List Rcd} (h : Good F l) {cl : List Int} (hix : indexP (sysL F l).length cl = true) (hlen : cl.length ≤ 4000) {w : World} {o : Option Addr} {c : Nat} (hc : (sysL F l).length ≤ c ∧ c ≤ 9223372036854775807) (hB : BoundsAt w o (sysL F l)) {a2 : Option Addr} {c2 : Nat} (hi : IntsAt w a2 cl) :
 Calls Tryz.prog 87 #[.agg #[.int .i64 (ptN F), .slice o (sysL F l).length c], .slice a2 cl.length c2] w fun e w' => (∃ v, e = .returned (.tuple #[v, .int .i64 0]) ∧ w'.ownsRow w.heap.size 3 1 v (recordsP (cl.map (bAt (sysL F l)))).length (intsV (recordsP (cl.map (bAt (sysL F l)))))) ∧ Below w.heap.size w w' := by
 have := recordsS_any w (ptN F) o c (sysL F l) a2 c2 cl (ptN_ok h.fld) (Nat.le_trans hc.1 hc.2) hB hlen hi
 rw [records_index h hix] at this
 exact this
set_option maxRecDepth 10000 in
set_option maxHeartbeats 4000000 in
theorem whyL_any (w : World) (x : FV) (F : Fld) (ar : Option Addr) (cr : Nat) (l : List Rcd) (i s : Int) (upper : Bool) (h : FldAt w x F) (hr : RcdsAt w ar l) (hn : l.length ≤ 100000) (hk : ∀ r ∈ l, (0 ≤ r.call.kind ∧ r.call.kind ≤ 255) ∧ r.deed.size ≤ 9223372036854775807) :
 Calls Tryz.prog 46 #[x.val F, .slice ar l.length cr, .agg #[.int .i64 i, .int .i64 s], .bool upper] w fun e w' => PathPost (whyE F l i s upper).1 (whyE F l i s upper).2 w.heap.size e w' ∧ Below w.heap.size w w' := by
 obtain ⟨w0, hw0⟩ : ∃ W, W = (w.alloc (.cells (x.arr F) 27)).alloc (.cells #[.int .i64 i, .int .i64 s] 30) := ⟨_, rfl⟩
 have B0 := hidE (show Below w.heap.size w w0 by rw [hw0]; exact ((Below.refl _ _).alloc (Nat.le_refl _) _).alloc (by simp) _)
 have X0 := hidE (show Kb [(w.heap.size + 1, .cells #[.int .i64 i, .int .i64 s] 30), (w.heap.size, .cells (x.arr F) 27)] w0 by
  rw [hw0]
  have := Kb.alloc (o := .cells #[.int .i64 i, .int .i64 s] 30) (Kb.alloc (W := w) (o := .cells (x.arr F) 27) (L := []) trivial)
  simpa using this)
 have HA := hidE (agreed_any w0 x F ar cr l (h.below B0.out) (hr.below B0.out (Nat.le_refl _)) hn hk 113 #[.pointer (some ⟨w.heap.size + 1, 0, none⟩)] (cornB F i s) (enters_of Tryz.func113 (by kernel_rfl) rfl)
  (fun hg W b o c hw hb => why1_any W b (w.heap.size + 1) _ F l i s hw hg.fld (blk_below hb (lt_of_block X0.out.1) X0.out.1)))
 obtain ⟨⟨R1, R2⟩, hR⟩ : ∃ R, whyE F l i s upper = R := ⟨_, rfl⟩
 rw [hR]
 unfold whyE at hR
 have HMZ := hidE (fun (q : matchE F l (flagE (cornB F i s)) = 0) => match_zero.1 q)
 have HPW := hidE (fun W b y (hw : WAt W b y F l) (hf : F.check = 0) (p : limB F i = true) (q : staB F s = true) => pointW_any W b y F l i s hw hf p q)
 obtain ⟨M, hM⟩ : ∃ M, matchE F l (flagE (cornB F i s)) = M := ⟨_, rfl⟩
 rw [hM] at HA hR HMZ
 have HR := hidE hR
 have kk := rowc X0.out.2.1
 clear hM h hr hn hk hR
 unfold FV.val FV.arr at *
 go_enter Tryz.func46, Tryz.ntmps46
 go_upto_region 1 with fail
 rw [← hw0]
 clear hw0
 go_wp2_with fail
 refine HA.out.mono ?_
 rintro e w1 ⟨hp, hb1⟩
 have B1 := hidE (B0.out.trans (hb1.mono B0.out.size))
 have X1 := hidE (X0.out.next hb1)
 clear hb1 HA kk X0
 unfold AgreedPost at hp
 by_cases h0 : M = 0
 rotate_left
 ·have hzb : (M != 0) = true := by simpa using h0
  rw [if_neg h0] at hp
  have hq := HR.out
  rw [if_pos h0] at hq
  obtain ⟨v, rfl⟩ := hp
  cases hq
  clear h0 HR HMZ HPW
  go_wp2_with fail
  refine bodyPost_ret (v := .tuple #[.slice none 0 0, .int .i64 R2]) (by simp [results, Tryz.results46, go_sem]) rfl ⟨⟨_, rfl, World.ownsRow_nil _ _ _ _⟩, B1.out⟩
 subst h0
 rw [if_pos rfl] at hp
 have hq := HR.out
 rw [if_neg (by simp)] at hq
 obtain ⟨b, o, c, rfl, hw, hbl⟩ := hp
 obtain ⟨q1, q2, q3⟩ := HMZ.out rfl
 obtain ⟨q4, q5⟩ := inv_corn q2
 have HPT := hidE (HPW.out w1 b _ hw q1.fld q4 q5)
 have pb := ptS_bd q4 q5
 have pl := pt_le q1.fld
 have HCAP := hidE hw.cap
 have HPA := hidE (fun W (hb : Below w1.heap.size w1 W) a b (p : a < ptN F) (q : b < ptN F) => path_world (a := a) (b := b) q1 q3 p q HCAP.out (hw.bnd.below hb (Nat.le_refl _)))
 have HPL := hidE (fun a b (p : a < ptN F) (q : b < ptN F) => (why_path (a := a) (b := b) q1 q3 p q).2)
 have HRE := hidE (fun W cl a2 c2 (hb : Below w1.heap.size w1 W) (hix : indexP (sysL F l).length cl = true) (q : List.length cl ≤ 4000) (hc : IntsAt W a2 cl) => records_world (c2 := c2) q1 hix q HCAP.out (hw.bnd.below hb (Nat.le_refl _)) hc)
 have HKX := hidE (fun W (hb : Below w1.heap.size w1 W) => rowc (hw.next hb).box)
 obtain ⟨p, hpp⟩ : ∃ p, ptS F i s = p := ⟨_, rfl⟩
 rw [hpp] at HPT pb hq
 have HQ := hidE hq
 have HPB := hidE pb
 have HPQ := hidE pl
 have kx := rowc X1.out.1
 clear hw hbl HMZ HPW q1 q2 q3 q4 q5 pb pl hpp hq HR
 go_wp2_with fail
 refine HPT.out.mono ?_
 rintro e w2 ⟨rfl, hb2⟩
 have B2 := hidE (B1.out.trans (hb2.mono B1.out.size))
 have HC2 := hidE hb2
 have ky := HKX.out _ hb2
 unfold WV.arr at ky
 clear hb2 kx HPT
 cases upper
 ·have z0 : (p : Nat) < ptN F := by have := HPB.out; have := HPQ.out; omega
  have z1 : (0 : Nat) < ptN F := by have := HPB.out; have := HPQ.out; omega
  have HP2 := hidE (HPA.out w2 HC2.out p 0 z0 z1)
  obtain ⟨l1, l2, -⟩ := HPL.out p 0 z0 z1
  have HL1 := hidE (show (pathP (ptN F) (sysL F l) p 0).length ≤ 4000 by have := HPQ.out; omega)
  have HIX := hidE l2
  have hq := HQ.out
  unfold whyP at hq
  rw [if_neg (by simp)] at hq
  obtain ⟨PL, hPL⟩ : ∃ q, pathP (ptN F) (sysL F l) p 0 = q := ⟨_, rfl⟩
  rw [hPL] at HP2 HL1 HIX hq
  have HR2 := hidE (fun W a2 c2 (hb : Below w1.heap.size w1 W) (hc : IntsAt W a2 PL) => HRE.out W PL a2 c2 hb HIX.out HL1.out hc)
  have HK2 := hidE (fun W (hb : Below w1.heap.size w1 W) => HKX.out W hb)
  obtain ⟨RS, hRS⟩ : ∃ q, recordsP (PL.map (bAt (sysL F l))) = q := ⟨_, rfl⟩
  rw [hRS] at HR2 hq
  cases hq
  clear z0 z1 l1 l2 HPL hPL hRS HRE HIX HL1 HPA HKX
  obtain ⟨N, hN⟩ : ∃ N : Int, ((ptN F : Nat) : Int) = N := ⟨_, rfl⟩
  obtain ⟨LN, hLN⟩ : ∃ n, (sysL F l).length = n := ⟨_, rfl⟩
  have HNE := hidE hN
  have HLN := hidE hLN
  rw [hN, hLN] at ky HP2 HR2
  clear hN hLN
  go_wp2_with fail
  refine HP2.out.mono ?_
  rintro e w3 ⟨⟨a2, c2, rfl, hin⟩, hb3⟩
  have HC3 := hidE (HC2.out.trans (hb3.mono HC2.out.size))
  have B3 := hidE (B2.out.trans (hb3.mono B2.out.size))
  have kz := HK2.out _ HC3.out
  unfold WV.arr at kz
  rw [HNE.out, HLN.out] at kz
  have HR3 := hidE (HR2.out w3 a2 c2 HC3.out hin)
  obtain ⟨PN, hPN⟩ : ∃ n, PL.length = n := ⟨_, rfl⟩
  rw [hPN] at HR3
  rw [hPN]
  clear hb3 hin HR2 HK2 HP2 ky hPN
  go_wp2_with fail
  refine HR3.out.mono ?_
  rintro e w4 ⟨⟨v, rfl, ho⟩, hb4⟩
  have HO := hidE (ownsRow_base ho B3.out.size)
  have B4 := hidE (B3.out.trans (hb4.mono B3.out.size))
  clear ho hb4 kz HR3
  go_wp2_with fail
  refine bodyPost_ret (v := .tuple #[v, .int .i64 0]) (by simp [results, Tryz.results46, go_sem]) rfl ⟨⟨_, rfl, HO.out⟩, B4.out⟩
 ·have z0 : (0 : Nat) < ptN F := by have := HPB.out; have := HPQ.out; omega
  have z1 : (p : Nat) < ptN F := by have := HPB.out; have := HPQ.out; omega
  have HP2 := hidE (HPA.out w2 HC2.out 0 p z0 z1)
  obtain ⟨l1, l2, -⟩ := HPL.out 0 p z0 z1
  have HL1 := hidE (show (pathP (ptN F) (sysL F l) 0 p).length ≤ 4000 by have := HPQ.out; omega)
  have HIX := hidE l2
  have hq := HQ.out
  unfold whyP at hq
  rw [if_pos rfl] at hq
  obtain ⟨PL, hPL⟩ : ∃ q, pathP (ptN F) (sysL F l) 0 p = q := ⟨_, rfl⟩
  rw [hPL] at HP2 HL1 HIX hq
  have HR2 := hidE (fun W a2 c2 (hb : Below w1.heap.size w1 W) (hc : IntsAt W a2 PL) => HRE.out W PL a2 c2 hb HIX.out HL1.out hc)
  have HK2 := hidE (fun W (hb : Below w1.heap.size w1 W) => HKX.out W hb)
  obtain ⟨RS, hRS⟩ : ∃ q, recordsP (PL.map (bAt (sysL F l))) = q := ⟨_, rfl⟩
  rw [hRS] at HR2 hq
  cases hq
  clear z0 z1 l1 l2 HPL hPL hRS HRE HIX HL1 HPA HKX
  obtain ⟨N, hN⟩ : ∃ N : Int, ((ptN F : Nat) : Int) = N := ⟨_, rfl⟩
  obtain ⟨LN, hLN⟩ : ∃ n, (sysL F l).length = n := ⟨_, rfl⟩
  have HNE := hidE hN
  have HLN := hidE hLN
  rw [hN, hLN] at ky HP2 HR2
  clear hN hLN
  go_wp2_with fail
  refine HP2.out.mono ?_
  rintro e w3 ⟨⟨a2, c2, rfl, hin⟩, hb3⟩
  have HC3 := hidE (HC2.out.trans (hb3.mono HC2.out.size))
  have B3 := hidE (B2.out.trans (hb3.mono B2.out.size))
  have kz := HK2.out _ HC3.out
  unfold WV.arr at kz
  rw [HNE.out, HLN.out] at kz
  have HR3 := hidE (HR2.out w3 a2 c2 HC3.out hin)
  obtain ⟨PN, hPN⟩ : ∃ n, PL.length = n := ⟨_, rfl⟩
  rw [hPN] at HR3
  rw [hPN]
  clear hb3 hin HR2 HK2 HP2 ky hPN
  go_wp2_with fail
  refine HR3.out.mono ?_
  rintro e w4 ⟨⟨v, rfl, ho⟩, hb4⟩
  have HO := hidE (ownsRow_base ho B3.out.size)
  have B4 := hidE (B3.out.trans (hb4.mono B3.out.size))
  clear ho hb4 kz HR3
  go_wp2_with fail
  refine bodyPost_ret (v := .tuple #[v, .int .i64 0]) (by simp [results, Tryz.results46, go_sem]) rfl ⟨⟨_, rfl, HO.out⟩, B4.out⟩
set_option maxRecDepth 100000 in
set_option maxHeartbeats 2000000 in
theorem ground_any (w : World) : Calls Tryz.prog 71 #[] w fun e w' => (∃ x : FV, e = .returned (x.val groundF) ∧ FldAt w' x groundF) ∧ Below w.heap.size w w' := by
 go_enter Tryz.func71, Tryz.ntmps71
 go_wp2_with fail
 obtain ⟨W, hW⟩ : ∃ W, W = ((((w.alloc (.cells #[.slice (some ⟨w.heap.size + 1, 0, none⟩) 3 3, .slice (some ⟨w.heap.size + 1 + 1, 0, none⟩) 2 2, .slice (some ⟨w.heap.size + 1 + 1 + 1, 0, none⟩) 1 1, .slice none 0 0] 27)).alloc
  (.cells #[.string ⟨#[97, 115, 104]⟩, .int .i64 0, .string ⟨#[111, 97, 107]⟩, .int .i64 1000, .string ⟨#[101, 108, 109]⟩, .int .i64 2000] 131)).alloc (.cells #[.string ⟨#[100, 121, 107, 101]⟩, .string ⟨#[98, 117, 114, 110]⟩] 9)).alloc (.cells #[.string ⟨#[99, 114, 111, 102, 116]⟩, .int .i64 0, .int .i64 0, .int .i64 2] 133)) := ⟨_, rfl⟩
 rw [← hW]
 have hs : W.heap.size = w.heap.size + 4 := by rw [hW]; simp
 have hb : Below w.heap.size w W := by rw [hW]; exact ((((Below.refl _ _).alloc (Nat.le_refl _) _).alloc (by simp) _).alloc (by simp; omega) _).alloc (by simp; omega) _
 have g0 : W.heap[w.heap.size]? = some (.cells #[.slice (some ⟨w.heap.size + 1, 0, none⟩) 3 3, .slice (some ⟨w.heap.size + 1 + 1, 0, none⟩) 2 2, .slice (some ⟨w.heap.size + 1 + 1 + 1, 0, none⟩) 1 1, .slice none 0 0] 27 (0,0)) := by
  rw [hW, Below.heap_alloc _ _ _ (by simp only [World.size_alloc]; omega), Below.heap_alloc _ _ _ (by simp only [World.size_alloc]; omega), Below.heap_alloc _ _ _ (by simp)]; exact heap_alloc_new _ _
 have g1 : W.heap[w.heap.size + 1]? = some (.cells #[.string ⟨#[97, 115, 104]⟩, .int .i64 0, .string ⟨#[111, 97, 107]⟩, .int .i64 1000, .string ⟨#[101, 108, 109]⟩, .int .i64 2000] 131 (0,0)) := by
  rw [hW, Below.heap_alloc _ _ _ (by simp only [World.size_alloc]; omega), Below.heap_alloc _ _ _ (by simp)]; exact heap_alloc_at _ _ _ (by simp)
 have g2 : W.heap[w.heap.size + 1 + 1]? = some (.cells #[.string ⟨#[100, 121, 107, 101]⟩, .string ⟨#[98, 117, 114, 110]⟩] 9 (0,0)) := by
  rw [hW, Below.heap_alloc _ _ _ (by simp)]; exact heap_alloc_at _ _ _ (by simp)
 have g3 : W.heap[w.heap.size + 1 + 1 + 1]? = some (.cells #[.string ⟨#[99, 114, 111, 102, 116]⟩, .int .i64 0, .int .i64 0, .int .i64 2] 133 (0,0)) := by
  rw [hW]; exact heap_alloc_at _ _ _ (by simp)
 clear hW
 refine bodyPost_ret (results_cell_row Tryz.results71 _ _ _ _ _ _ _ rfl g0 Tryz.underlying27 rfl (by kernel_rfl)) rfl ⟨⟨⟨some ⟨w.heap.size + 1, 0, none⟩, 3, some ⟨w.heap.size + 1 + 1, 0, none⟩, 2, some ⟨w.heap.size + 1 + 1 + 1, 0, none⟩, 1, none, 0⟩, rfl, ?_⟩, hb⟩
 refine ⟨.inr ⟨_, 0, rfl, by omega, fun i hi j hj => ?_⟩, .inr ⟨_, 0, rfl, by omega, fun i hi j hj => ?_⟩, .inr ⟨_, 0, rfl, by omega, fun i hi j hj => ?_⟩, .inl rfl, ⟨Nat.le_refl _, (by decide : (3 : Nat) ≤ 9223372036854775807)⟩, ⟨Nat.le_refl _, (by decide : (2 : Nat) ≤ 9223372036854775807)⟩, ⟨Nat.le_refl _, (by decide : (1 : Nat) ≤ 9223372036854775807)⟩, ⟨Nat.le_refl _, Nat.zero_le _⟩, ?_, ?_, ?_, ?_⟩
 ·rw [cell_of_row _ _ _ _ _ _ g1]
  have hi2 : i < 3 := hi
  rcases (by omega : i = 0 ∨ i = 1 ∨ i = 2) with rfl | rfl | rfl <;> rcases (by omega : j = 0 ∨ j = 1) with rfl | rfl <;> rfl
 ·rw [cell_of_row _ _ _ _ _ _ g2]
  have hi2 : i < 2 := hi
  obtain rfl : j = 0 := by omega
  rcases (by omega : i = 0 ∨ i = 1) with rfl | rfl <;> rfl
 ·rw [cell_of_row _ _ _ _ _ _ g3]
  have hi2 : i < 1 := hi
  obtain rfl : i = 0 := by omega
  rcases (by omega : j = 0 ∨ j = 1 ∨ j = 2 ∨ j = 3) with rfl | rfl | rfl | rfl <;> rfl
 ·decide
 ·intro s hs
  simp only [groundF, List.mem_cons, List.not_mem_nil, or_false] at hs
  rcases hs with rfl | rfl | rfl <;> exact ⟨by decide, by decide⟩
 ·intro s hs
  simp only [groundF, List.mem_cons, List.not_mem_nil, or_false] at hs
  subst hs
  exact ⟨⟨by decide, by decide⟩, ⟨by decide, by decide⟩, by decide, by decide⟩
 ·intro s hs
  simp [groundF] at hs
def heldV : List Value := heldL.flatMap Rcd.cells
theorem rcds_held {W : World} {g : Nat} (h : W.heap[g]? = some (.cells heldV.toArray 50 (0,0))) : RcdsAt W (some ⟨g, 0, none⟩) heldL := by
 refine .inr ⟨g, 0, rfl, lt_of_block h, fun i hi j hj => ?_⟩
 rw [cell_of_row _ _ _ _ _ _ h]
 have hi2 : i < 3 := hi
 have hj2 : j < 18 := hj
 rcases (by omega : i = 0 ∨ i = 1 ∨ i = 2) with rfl | rfl | rfl <;>
 rcases (by omega : j = 0 ∨ j = 1 ∨ j = 2 ∨ j = 3 ∨ j = 4 ∨ j = 5 ∨ j = 6 ∨ j = 7 ∨ j = 8 ∨ j = 9 ∨ j = 10 ∨ j = 11 ∨ j = 12 ∨ j = 13 ∨ j = 14 ∨ j = 15 ∨ j = 16 ∨ j = 17) with rfl | rfl | rfl | rfl | rfl | rfl | rfl | rfl | rfl | rfl | rfl | rfl | rfl | rfl | rfl | rfl | rfl | rfl <;> rfl
set_option maxRecDepth 100000 in
set_option maxHeartbeats 4000000 in
theorem held_any (w : World) : Calls Tryz.prog 72 #[] w fun e w' => (∃ g, e = .returned (.slice (some ⟨g, 0, none⟩) 3 3) ∧ w.heap.size ≤ g ∧ w'.heap[g]? = some (.cells heldV.toArray 50 (0,0))) ∧ Below w.heap.size w w' := by
 go_enter Tryz.func72, Tryz.ntmps72
 go_wp2_with fail
 refine bodyPost_ret (v := .slice (some ⟨w.heap.size, 0, none⟩) 3 3) (by simp [results, Tryz.results72, go_sem]) rfl ⟨⟨_, rfl, Nat.le_refl _, ?_⟩, (Below.refl _ _).alloc (Nat.le_refl _) _⟩
 exact heap_alloc_new _ _
theorem sortP_is {l m : List Int} (hp : m.Perm l) (hs : m.Pairwise (· ≤ ·)) : sortP l = m :=
 List.Perm.eq_of_pairwise (le := fun a b => a ≤ b) (fun _ _ _ _ h1 h2 => Int.le_antisymm h1 h2) (sortP_le l) hs ((List.mergeSort_perm _ _).trans hp.symm)
theorem held_good : Good groundF heldL := (check_iff _ _).1 (by rw [held_check])
theorem moreN_good : Good groundF heldN := (check_iff _ _).1 (by rw [more_check.2])
theorem held_why : whyE groundF heldL 1 1 true = ([1, 2, 3], 0) := by
 have m : matchE groundF heldL (flagE (cornB groundF 1 1)) = 0 := match_zero.2 ⟨held_good, by decide +kernel, held_agree⟩
 unfold whyE
 rw [if_neg (by rw [m]; simp)]
 have hp : ptS groundF 1 1 = 5 := by decide +kernel
 have h1 := (why_path held_good held_agree (a := 0) (b := 5) (by decide +kernel) (by decide +kernel)).1
 have h2 := why_path_held.1
 have h3 : pathP (ptN groundF) (sysL groundF heldL) 0 5 = [15, 17, 19] := by
  have := h1.symm.trans h2
  exact (Prod.mk.inj this).1
 unfold whyP
 rw [hp, if_pos rfl, h3]
 unfold recordsP
 rw [show rcds (([15, 17, 19] : List Int).map (bAt (sysL groundF heldL))) = [1, 2, 3] by decide +kernel, sortP_is (List.Perm.refl _) (by simp)]
 decide +kernel
theorem held_conflict : conflictE groundF heldM = ([1, 2, 4], true, 0) := by
 unfold conflictE
 rw [if_neg (by rw [more_check.1]; simp), if_neg (by rw [more_agree.1]; simp), circle_held.1]
 unfold recordsP
 rw [show rcds (([16, 21, 18] : List Int).map (bAt (sysL groundF heldM))) = [1, 4, 2] by decide +kernel, sortP_is (m := [1, 2, 4]) (by decide) (by simp)]
 decide +kernel
theorem held_idle : idleE groundF heldN = ([4], 0) := by
 have m : matchE groundF heldN 0 = 0 := match_zero.2 ⟨moreN_good, rfl, more_agree.2⟩
 unfold idleE
 rw [if_neg (by rw [m]; simp)]
 have e : heldN.filter (fun r => idleB groundF heldN r.id) = [⟨4, 0, bytes [106, 111, 110, 101, 115], 1700, 0, ⟨1, 0, 0, 1, 0, 250, 40, crs0⟩⟩] := by
  unfold heldN heldL
  simp only [List.cons_append, List.nil_append]
  rw [List.filter_cons, if_neg (by have := idle_none.1; unfold heldN heldL at this; simp only [List.cons_append, List.nil_append] at this; rw [this]; simp)]
  rw [List.filter_cons, if_neg (by have := idle_none.2.1; unfold heldN heldL at this; simp only [List.cons_append, List.nil_append] at this; rw [this]; simp)]
  rw [List.filter_cons, if_neg (by have := idle_none.2.2; unfold heldN heldL at this; simp only [List.cons_append, List.nil_append] at this; rw [this]; simp)]
  rw [List.filter_cons, if_pos (by have := idle_one; unfold heldN heldL at this; simp only [List.cons_append, List.nil_append] at this; exact this)]
  rfl
 rw [e]
 rfl
def LS (l : List Int) (n : Nat) (err : Int) (B : Nat) (e : Ending) (w' : World) : Prop := ∃ q c cur, e = .returned (.tuple #[.slice (some ⟨q, 0, none⟩) n c, .int .i64 err]) ∧ B ≤ q ∧ Hid (w'.heap[q]? = some (.cells cur 3 (0,0))) ∧ Hid (cur.toList.take n = intsV l)
def LB (l : List Int) (n : Nat) (b : Bool) (err : Int) (B : Nat) (e : Ending) (w' : World) : Prop := ∃ q c cur, e = .returned (.tuple #[.slice (some ⟨q, 0, none⟩) n c, .bool b, .int .i64 err]) ∧ B ≤ q ∧ Hid (w'.heap[q]? = some (.cells cur 3 (0,0))) ∧ Hid (cur.toList.take n = intsV l)
theorem ls_of {l : List Int} {n : Nat} {err : Int} {B : Nat} {e : Ending} {w' : World} (h : PathPost l err B e w') (hn : l.length = n) (h0 : 0 < n) : LS l n err B e w' := by
 subst hn
 obtain ⟨v, rfl, -, ⟨_, z⟩ | ⟨q, c, cur, rfl, hq, hh, _, _, _, htk⟩⟩ := h
 ·omega
 ·exact ⟨q, c, cur, rfl, hq, hidE hh, hidE (by rw [Nat.mul_one] at htk; exact htk)⟩
theorem lb_of {l : List Int} {n : Nat} {b : Bool} {err : Int} {B : Nat} {e : Ending} {w' : World} (h : ThroughPost l b err B e w') (hn : l.length = n) (h0 : 0 < n) : LB l n b err B e w' := by
 subst hn
 obtain ⟨v, rfl, -, ⟨_, z⟩ | ⟨q, c, cur, rfl, hq, hh, _, _, _, htk⟩⟩ := h
 ·omega
 ·exact ⟨q, c, cur, rfl, hq, hidE hh, hidE (by rw [Nat.mul_one] at htk; exact htk)⟩
theorem ints_cur {W : World} {q n : Nat} {cur : Array Value} {l : List Int} (h : W.heap[q]? = some (.cells cur 3 (0,0))) (ht : cur.toList.take n = intsV l) (hn : l.length = n) : IntsAt W (some ⟨q, 0, none⟩) l := by
 refine .inr ⟨q, 0, rfl, lt_of_block h, fun i hi => ?_⟩
 rw [cell_of_row _ _ _ _ _ _ h, Nat.zero_add]
 have : (cur.toList.take n)[i]? = some (.int .i64 l[i]) := by rw [ht]; simp [intsV, hi]
 rw [List.getElem?_take_of_lt (by omega)] at this
 simpa using this
theorem held_kinds : ∀ r ∈ heldL, (0 ≤ r.call.kind ∧ r.call.kind ≤ 255) ∧ r.deed.size ≤ 9223372036854775807 := by
 intro r hr
 simp only [heldL, List.mem_cons, List.not_mem_nil, or_false] at hr
 rcases hr with rfl | rfl | rfl <;> exact ⟨by decide, by decide⟩
theorem more_kinds {q : Rcd} (hq : (0 ≤ q.call.kind ∧ q.call.kind ≤ 255) ∧ q.deed.size ≤ 9223372036854775807) : ∀ r ∈ heldL ++ [q], (0 ≤ r.call.kind ∧ r.call.kind ≤ 255) ∧ r.deed.size ≤ 9223372036854775807 := by
 intro r hr
 rcases List.mem_append.1 hr with h | h
 ·exact held_kinds r h
 ·obtain rfl := List.mem_singleton.1 h
  exact hq
section
variable (W : World) (x : FV) (F : Fld) (hF : F = groundF) (l : List Rcd) (hl : l = heldL) (ar : Option Addr) (h : FldAt W x F) (hr : RcdsAt W ar l)
include hF hl h hr
theorem sv_region : Calls Tryz.prog 24 #[x.val F, .slice ar 3 3, .agg #[.int .i64 0, .int .i64 1]] W fun e w' => e = .returned (.tuple #[.int .i64 235, .int .i64 265, .int .i64 0]) ∧ Below W.heap.size W w' := by
 have := regionL_any W x F ar 3 l 0 1 h hr (by rw [hl]; decide) (by rw [hl]; exact held_kinds)
 rw [hF, hl] at this
 rw [hF]
 rw [held_region] at this
 exact this
theorem sv_why : Calls Tryz.prog 46 #[x.val F, .slice ar 3 3, .agg #[.int .i64 1, .int .i64 1], .bool true] W fun e w' => LS [1, 2, 3] 3 0 W.heap.size e w' ∧ Below W.heap.size W w' := by
 have := whyL_any W x F ar 3 l 1 1 true h hr (by rw [hl]; decide) (by rw [hl]; exact held_kinds)
 rw [hF, hl] at this
 rw [hF]
 rw [held_why] at this
 exact this.mono fun e w' ⟨a, b⟩ => ⟨ls_of a rfl (by omega), b⟩
theorem sv_width : Calls Tryz.prog 26 #[x.val F, .slice ar 3 3, .agg #[.int .i64 0, .int .i64 0], .agg #[.int .i64 1, .int .i64 1]] W fun e w' => e = .returned (.tuple #[.int .i64 345, .int .i64 355, .int .i64 0]) ∧ Below W.heap.size W w' := by
 have := widthL_any W x F ar 3 l 0 0 1 1 h hr (by rw [hl]; decide) (by rw [hl]; exact held_kinds)
 rw [hF, hl] at this
 rw [hF]
 rw [held_width] at this
 exact this
theorem sv_award : Calls Tryz.prog 30 #[x.val F, .slice ar 3 3, .agg #[.int .i64 0, .int .i64 1, .int .i64 265, .int .i64 300]] W fun e w' => e = .returned (.tuple #[.int .u8 1, .int .i64 0]) ∧ Below W.heap.size W w' := by
 have := awardL_any W x F ar 3 l 0 1 265 300 h hr (by rw [hl]; decide) (by rw [hl]; exact held_kinds)
 rw [hF, hl] at this
 rw [hF]
 rw [held_award] at this
 exact this
theorem sv_parts : Calls Tryz.prog 57 #[x.val F, .slice ar 3 3, .agg #[.int .i64 0, .int .i64 1, .int .i64 200, .int .i64 300]] W fun e w' => e = .returned (.tuple #[.int .i64 35, .int .i64 30, .int .i64 35, .int .i64 0]) ∧ Below W.heap.size W w' := by
 have := partsL_any W x F ar 3 l 0 1 200 300 h hr (by rw [hl]; decide) (by rw [hl]; exact held_kinds)
 rw [hF, hl] at this
 rw [hF]
 rw [held_parts] at this
 exact this
theorem sv_sure : Calls Tryz.prog 41 #[x.val F, .slice ar 3 3, .int .i64 0, .int .i64 1] W fun e w' => e = .returned (.tuple #[.int .i64 265, .int .i64 535, .int .i64 0]) ∧ Below W.heap.size W w' := by
 have := sureL_any W x F ar 3 l 0 1 h hr (by rw [hl]; decide) (by rw [hl]; exact held_kinds)
 rw [hF, hl] at this
 rw [hF]
 rw [held_sure] at this
 exact this
end
theorem sv_conflict (W : World) (x : FV) (F : Fld) (hF : F = groundF) (ar : Option Addr) (c : Nat) (h : FldAt W x F) (hr : RcdsAt W ar heldM) : Calls Tryz.prog 29 #[x.val F, .slice ar 4 c] W fun e w' => LB [1, 2, 4] 3 true 0 W.heap.size e w' ∧ Below W.heap.size W w' := by
 have := conflictL_any W x F ar c heldM h hr (by decide) (more_kinds ⟨by decide, by decide⟩)
 rw [hF] at this ⊢
 rw [held_conflict] at this
 exact this.mono fun e w' ⟨a, b⟩ => ⟨lb_of a rfl (by omega), b⟩
theorem sv_idle (W : World) (x : FV) (F : Fld) (hF : F = groundF) (ar : Option Addr) (c : Nat) (h : FldAt W x F) (hr : RcdsAt W ar heldN) : Calls Tryz.prog 37 #[x.val F, .slice ar 4 c] W fun e w' => LS [4] 1 0 W.heap.size e w' ∧ Below W.heap.size W w' := by
 have := idleL_any W x F ar c heldN h hr (by decide) (more_kinds ⟨by decide, by decide⟩)
 rw [hF] at this ⊢
 rw [held_idle] at this
 exact this.mono fun e w' ⟨a, b⟩ => ⟨ls_of a rfl (by omega), b⟩
set_option maxHeartbeats 400000 in
theorem same4_any (w : World) (a0 : Option Addr) (c0 : Nat) (l0 : List Int) (a1 : Option Addr) (c1 : Nat) (l1 : List Int) (h0 : IntsAt w a0 l0) (h1 : IntsAt w a1 l1) (hl0 : l0.length ≤ 9223372036854775807) (hl1 : l1.length ≤ 9223372036854775807) :
 Calls Tryz.prog 40 #[.slice a0 l0.length c0, .slice a1 l1.length c1] w fun e w' => e = .returned (.bool (decide (l0 = l1))) ∧ Below w.heap.size w w' := by
 have H := hidE (sameInts_any w a0 c0 l0 a1 c1 l1 h0 h1 hl0 hl1)
 obtain ⟨r, hr⟩ : ∃ r, decide (l0 = l1) = r := ⟨_, rfl⟩
 rw [hr] at H ⊢
 obtain ⟨n0, hn0⟩ : ∃ n, l0.length = n := ⟨_, rfl⟩
 obtain ⟨n1, hn1⟩ : ∃ n, l1.length = n := ⟨_, rfl⟩
 rw [hn0, hn1] at H ⊢
 clear hr hn0 hn1 h0 h1 hl0 hl1
 go_enter Tryz.func40, Tryz.ntmps40
 go_wp2_with fail
 refine H.out.mono ?_
 rintro e w1 ⟨rfl, hb⟩
 go_wp2_with fail
 go_ret
 exact ⟨rfl, hb⟩
theorem same4_lit (W : World) (q c : Nat) (cur : Array Value) (l : List Int) (n : Nat) (h : W.heap[q]? = some (.cells cur 3 (0,0))) (ht : cur.toList.take n = intsV l) (hn : l.length = n) (hl : n ≤ 1000) :
 Calls Tryz.prog 40 #[.slice (some ⟨q, 0, none⟩) n c, .slice (some ⟨W.heap.size, 0, none⟩) n n] (W.alloc (.cells (intsV l).toArray 3)) fun e w' => e = .returned (.bool true) ∧ Below W.heap.size W w' := by
 subst hn
 have H := same4_any (W.alloc (.cells (intsV l).toArray 3)) (some ⟨q, 0, none⟩) c l (some ⟨W.heap.size, 0, none⟩) l.length l ((ints_cur h ht rfl).alloc _) (ints_lit W l) (by omega) (by omega)
 rw [decide_eq_true rfl] at H
 refine H.mono fun e w' ⟨h1, h2⟩ => ⟨h1, ?_⟩
 exact ((Below.refl _ _).alloc (Nat.le_refl _) _).trans (h2.mono (by simp))
theorem flat18 : ∀ (l : List Rcd) (i : Nat) (hi : i < l.length) (j : Nat), j < 18 → (l.flatMap Rcd.cells)[i * 18 + j]? = (Rcd.cells l[i])[j]?
 | r :: l, 0, _, j, hj => by
   rw [List.flatMap_cons, Nat.zero_mul, Nat.zero_add, List.getElem?_append_left (by show j < 18; exact hj)]; rfl
 | r :: l, i + 1, hi, j, hj => by
   rw [List.flatMap_cons, List.getElem?_append_right (by show 18 ≤ _; omega)]
   have := flat18 l i (by simpa using hi) j hj
   rw [show (i + 1) * 18 + j - (Rcd.cells r).length = i * 18 + j by show (i + 1) * 18 + j - 18 = _; omega, this]
   rfl
theorem rcds_row {W : World} {g : Nat} {cur : Array Value} {l : List Rcd} (h : W.heap[g]? = some (.cells cur 50 (0,0))) (hc : cur.toList.take (l.length * 18) = l.flatMap Rcd.cells) : RcdsAt W (some ⟨g, 0, none⟩) l := by
 refine .inr ⟨g, 0, rfl, lt_of_block h, fun i hi j hj => ?_⟩
 rw [cell_of_row _ _ _ _ _ _ h, Nat.zero_add, ← flat18 l i hi j hj, ← hc, List.getElem?_take_of_lt (by have := Nat.mul_le_mul_right 18 (show i + 1 ≤ l.length by omega); omega)]
 simp
theorem owns_held {W : World} {g : Nat} {B : Nat} (hb : B ≤ g) (h : W.heap[g]? = some (.cells heldV.toArray 50 (0,0))) : W.ownsRow B 50 18 (.slice (some ⟨g, 0, none⟩) 3 3) 3 heldV :=
 ⟨rfl, .inr ⟨g, 3, heldV.toArray, rfl, hb, h, Nat.le_refl _, by unfold maxLen; omega, rfl, rfl⟩⟩
def jones : Rcd := ⟨4, 0, bytes [106, 111, 110, 101, 115], 1700, 0, ⟨1, 0, 0, 1, 0, 100, 0, crs0⟩⟩
theorem set_held : ((heldV ++ jones.cells).set 64 (.int .i64 250)).set 65 (.int .i64 40) = heldN.flatMap Rcd.cells := by rfl
theorem info50 : (Tryz.prog.info? 50).map (fun i => (i.zero, i.size, i.bytes)) = some (some (.agg #[.int .i64 0, .int .i64 0, .string ByteArray.empty, .int .i64 0, .int .i64 0, .int .u8 0, .int .i64 0, .int .i64 0, .int .i64 0, .int .i64 0, .int .i64 0, .int .i64 0, .int .i64 0, .int .i64 0, .int .i64 0, .int .i64 0, .int .i64 0, .int .i64 0]), 18, 152) := by kernel_rfl
theorem rcd_one (r : Rcd) : ∀ u ∈ r.cells, u.oneCell' = true := by
 intro u hu
 simp only [Rcd.cells, Rcd.vals, List.mem_cons, List.not_mem_nil, or_false] at hu
 rcases hu with rfl | rfl | rfl | rfl | rfl | rfl | rfl | rfl | rfl | rfl | rfl | rfl | rfl | rfl | rfl | rfl | rfl | rfl <;> rfl
theorem cur_at {cur : Array Value} {n : Nat} {l : List Value} (h : cur.toList.take n = l) {i : Nat} {v : Value} (hi : l[i]? = some v) : cur[i]? = some v := by
 rw [← h] at hi
 have hlt : i < n := by
  have := (List.getElem?_eq_some_iff.1 hi).1
  rw [List.length_take] at this
  omega
 rw [List.getElem?_take_of_lt hlt] at hi
 simpa using hi
theorem cur_set {cur : Array Value} {n i j : Nat} {u v : Value} : ((cur.setIfInBounds i u).setIfInBounds j v).toList.take n = ((cur.toList.take n).set i u).set j v := by
 rw [Array.toList_setIfInBounds, Array.toList_setIfInBounds, List.take_set, List.take_set]
structure SvJ (W : World) (x : FV) (F : Fld) (B C : Nat) : Prop where
 box : W.heap[B]? = some (.cells (x.arr F) 27 (0,0))
 cor : W.heap[C]? = some (.cells #[.int .i64 0, .int .i64 1] 30 (0,0))
 fld : FldAt W x F
theorem SvJ.next {W W' : World} {x : FV} {F : Fld} {B C : Nat} (h : SvJ W x F B C) (hb : Below W.heap.size W W') : SvJ W' x F B C :=
 ⟨blk_below hb (lt_of_block h.box) h.box, blk_below hb (lt_of_block h.cor) h.cor, h.fld.below hb⟩
set_option maxRecDepth 100000 in
set_option maxHeartbeats 16000000 in
theorem surveyed_any (w : World) : Calls Tryz.prog 23 #[] w fun e w' => e = .returned (.bool true) ∧ Below w.heap.size w w' := by
 go_enter Tryz.func23, Tryz.ntmps23
 go_wp2_with fail
 refine (ground_any _).mono ?_
 rintro e w0 ⟨⟨x, rfl, hF⟩, hb0⟩
 obtain ⟨F, HFE⟩ : ∃ F, Hid (F = groundF) := ⟨groundF, hidE rfl⟩
 rw [← HFE.out] at hF ⊢
 have B0 := hidE hb0
 have F0 := hidE hF
 clear hF hb0
 unfold FV.val FV.arr
 go_upto_region 2 with fail
 refine wp_nm ?_
 intro W1 hW1
 have hb1 : Below w0.heap.size w0 W1 := by rw [hW1]; exact (Below.refl _ _).alloc (Nat.le_refl _) _
 have XB := (show W1.heap[w0.heap.size]? = some (.cells (x.arr F) 27 (0,0)) by rw [hW1]; exact heap_alloc_new _ _)
 have BBW := hidE (B0.out.trans (hb1.mono B0.out.size))
 have BB1 := hidE (Below.refl W1.heap.size W1)
 have F1 := hidE (F0.out.below hb1)
 obtain ⟨B, hB⟩ : ∃ n, w0.heap.size = n := ⟨_, rfl⟩
 rw [hB] at XB ⊢
 have X1 := hidE XB
 clear hW1 hb1 XB hB B0 F0
 go_wp2_with fail
 refine (held_any _).mono ?_
 rintro e W2 ⟨⟨g, rfl, hg, hblk⟩, hb2⟩
 have BB2 := hidE (BB1.out.trans (hb2.mono BB1.out.size))
 have F2 := hidE (F1.out.below hb2)
 have X2 := hidE (blk_below hb2 (lt_of_block X1.out) X1.out)
 have HG := hidE hblk
 have HGE := hidE (show W1.heap.size ≤ g from hg)
 have HBG := hidE (Nat.lt_of_lt_of_le (lt_of_block X1.out) hg)
 clear hg hblk hb2 BB1 X1
 go_upto_region 4 with fail
 refine wp_nm ?_
 intro W3 hW3
 have hb3 : Below W2.heap.size W2 W3 := by rw [hW3]; exact (Below.refl _ _).alloc (Nat.le_refl _) _
 have XC := (show W3.heap[W2.heap.size]? = some (.cells #[.int .i64 0, .int .i64 1] 30 (0,0)) by rw [hW3]; exact heap_alloc_new _ _)
 have BB3 := hidE (BB2.out.trans (hb3.mono BB2.out.size))
 have HG3 := hidE (blk_below hb3 (lt_of_block HG.out) HG.out)
 have J3 := hidE (SvJ.mk (C := W2.heap.size) (blk_below hb3 (lt_of_block X2.out) X2.out) XC (F2.out.below hb3))
 obtain ⟨C, hC⟩ : ∃ n, W2.heap.size = n := ⟨_, rfl⟩
 have HGC := hidE (show g < W2.heap.size from lt_of_block HG.out)
 rw [hC] at J3 HGC ⊢
 clear hW3 hb3 XC hC BB2 F2 X2 HG
 have k0 := rowc J3.out.box
 have k1 := rowc J3.out.cor
 unfold FV.arr at k0
 have HC := hidE (sv_region W3 x F HFE.out heldL rfl (some ⟨g, 0, none⟩) J3.out.fld (rcds_held HG3.out))
 try unfold FV.val FV.arr at HC
 go_wp2_with fail
 refine HC.out.mono ?_
 rintro e W4 ⟨rfl, hb⟩
 have BB4 := hidE (BB3.out.trans (hb.mono BB3.out.size))
 have J4 := hidE (J3.out.next hb)
 have HG4 := hidE (blk_below hb (lt_of_block HG3.out) HG3.out)
 clear hb k0 k1 HC BB3 J3 HG3
 have HGL := lt_of_block HG4.out
 have k0 := rowc J4.out.box
 have k1 := rowc J4.out.cor
 unfold FV.arr at k0
 have HC := hidE (sv_why W4 x F HFE.out heldL rfl (some ⟨g, 0, none⟩) J4.out.fld (rcds_held HG4.out))
 try unfold FV.val FV.arr at HC
 go_wp2_with fail
 refine HC.out.mono ?_
 rintro e W5 ⟨⟨q1, c1, cur1, rfl, hq1, Lx, T1⟩, hb⟩
 have BB5 := hidE (BB4.out.trans (hb.mono BB4.out.size))
 have J5 := hidE (J4.out.next hb)
 have HG5 := hidE (blk_below hb (lt_of_block HG4.out) HG4.out)
 have LA5 := Lx
 clear hb k0 k1 HC BB4 J4 HG4
 have HQ1 := hidE (Nat.lt_of_lt_of_le HGL hq1)
 clear HGL hq1
 have k0 := rowc J5.out.box
 have k1 := rowc J5.out.cor
 unfold FV.arr at k0
 have HC := hidE (sv_width W5 x F HFE.out heldL rfl (some ⟨g, 0, none⟩) J5.out.fld (rcds_held HG5.out))
 try unfold FV.val FV.arr at HC
 go_wp2_with fail
 refine HC.out.mono ?_
 rintro e W6 ⟨rfl, hb⟩
 have BB6 := hidE (BB5.out.trans (hb.mono BB5.out.size))
 have J6 := hidE (J5.out.next hb)
 have HG6 := hidE (blk_below hb (lt_of_block HG5.out) HG5.out)
 have LA6 := hidE (blk_below hb (lt_of_block LA5.out) LA5.out)
 clear hb k0 k1 HC BB5 J5 HG5 LA5
 have k0 := rowc J6.out.box
 have k1 := rowc J6.out.cor
 unfold FV.arr at k0
 have HC := hidE (sv_award W6 x F HFE.out heldL rfl (some ⟨g, 0, none⟩) J6.out.fld (rcds_held HG6.out))
 try unfold FV.val FV.arr at HC
 go_wp2_with fail
 refine HC.out.mono ?_
 rintro e W7 ⟨rfl, hb⟩
 have BB7 := hidE (BB6.out.trans (hb.mono BB6.out.size))
 have J7 := hidE (J6.out.next hb)
 have HG7 := hidE (blk_below hb (lt_of_block HG6.out) HG6.out)
 have LA7 := hidE (blk_below hb (lt_of_block LA6.out) LA6.out)
 clear hb k0 k1 HC BB6 J6 HG6 LA6
 have k0 := rowc J7.out.box
 have k1 := rowc J7.out.cor
 unfold FV.arr at k0
 have HC := hidE (sv_parts W7 x F HFE.out heldL rfl (some ⟨g, 0, none⟩) J7.out.fld (rcds_held HG7.out))
 try unfold FV.val FV.arr at HC
 go_wp2_with fail
 refine HC.out.mono ?_
 rintro e W8 ⟨rfl, hb⟩
 have BB8 := hidE (BB7.out.trans (hb.mono BB7.out.size))
 have J8 := hidE (J7.out.next hb)
 have HG8 := hidE (blk_below hb (lt_of_block HG7.out) HG7.out)
 have LA8 := hidE (blk_below hb (lt_of_block LA7.out) LA7.out)
 clear hb k0 k1 HC BB7 J7 HG7 LA7
 have k0 := rowc J8.out.box
 have k1 := rowc J8.out.cor
 unfold FV.arr at k0
 have HC := hidE (sv_sure W8 x F HFE.out heldL rfl (some ⟨g, 0, none⟩) J8.out.fld (rcds_held HG8.out))
 try unfold FV.val FV.arr at HC
 go_wp2_with fail
 refine HC.out.mono ?_
 rintro e W9 ⟨rfl, hb⟩
 have BB9 := hidE (BB8.out.trans (hb.mono BB8.out.size))
 have J9 := hidE (J8.out.next hb)
 have HG9 := hidE (blk_below hb (lt_of_block HG8.out) HG8.out)
 have LA9 := hidE (blk_below hb (lt_of_block LA8.out) LA8.out)
 clear hb k0 k1 HC BB8 J8 HG8 LA8
 go_upto_region 10 with fail
 obtain ⟨v', W10, hrun, ho, hb, hst⟩ := append_rec (w := W9.alloc (.cells #[.int .i64 4, .int .i64 0, .string ⟨#[106, 111, 110, 101, 115]⟩, .int .i64 1700, .int .i64 0, .int .u8 1, .int .i64 0, .int .i64 0, .int .i64 1, .int .i64 0, .int .i64 100, .int .i64 0, .int .i64 0, .int .i64 0, .int .i64 0, .int .i64 0, .int .i64 0, .int .i64 0] 50)) (base := W1.heap.size) Tryz.underlying28 info50 rfl (by decide) (by decide) (World.ownsRow.alloc (owns_held HGE.out HG9.out) _) (b := W9.heap.size) (news := jones.cells) rfl (heap_alloc_new _ _) (rcd_one jones) (by omega) (by have := BB9.out.size; simp; omega) 28
 have HRUN := hidE hrun
 obtain ⟨-, ⟨_, z⟩ | ⟨g2, cp, cur, rfl, hg2, hblk2, _, _, _, htk⟩⟩ := ho
 ·exact absurd z (by decide)
 have hb0 : Below W1.heap.size W9 W10 := ((Below.refl _ _).alloc BB9.out.size _).trans hb
 have BB10 := hidE (BB9.out.trans hb0)
 have hst2 : ∀ q, q < W9.heap.size → q ≠ g → W10.heap[q]? = W9.heap[q]? := fun q hq hne => (hst q (by simp; omega) (by intro e; exact hne (Option.some.inj e).symm)).trans (Below.heap_alloc _ _ _ hq)
 have LA10 := hidE ((hst2 q1 (lt_of_block LA9.out) (by have := HQ1.out; omega)).trans LA9.out)
 have J10 := hidE (SvJ.mk ((hst2 B (lt_of_block J9.out.box) (by have := HBG.out; omega)).trans J9.out.box) ((hst2 C (lt_of_block J9.out.cor) (by have := HGC.out; omega)).trans J9.out.cor) (F1.out.below BB10.out))
 have HM10 := hidE hblk2
 have HTK := hidE htk
 have HG2 := hidE hg2
 clear hrun hb hst hst2 hb0 hg2 hblk2 htk HG9 J9 LA9 BB9 HGE HQ1 HBG HGC
 go_upto_region 11 with (at_builtin; refine wpList_op_append rfl (s := .tmp 78) (x := .tmp 81) (t := 28) rfl rfl rfl HRUN.out ?_)
 clear HRUN
 have k0 := rowc J10.out.box
 have k1 := rowc J10.out.cor
 unfold FV.arr at k0
 have HC := hidE (sv_conflict W10 x F HFE.out (some ⟨g2, 0, none⟩) cp J10.out.fld (rcds_row HM10.out (by rw [show heldM.flatMap Rcd.cells = heldV ++ jones.cells from rfl]; exact HTK.out)))
 try unfold FV.val FV.arr at HC
 go_wp2_with fail
 refine HC.out.mono ?_
 rintro e W11 ⟨⟨q2, c2, cur2, rfl, hq2, Lx, T2⟩, hb⟩
 have BB11 := hidE (BB10.out.trans (hb.mono BB10.out.size))
 have J11 := hidE (J10.out.next hb)
 have LA11 := hidE (blk_below hb (lt_of_block LA10.out) LA10.out)
 have HM11 := hidE (blk_below hb (lt_of_block HM10.out) HM10.out)
 have LC11 := Lx
 clear hb k0 k1 HC BB10 J10 LA10 HM10
 go_upto_region 12 with fail
 have c0 : W11.cell? ⟨g2, 64, none⟩ = some (.int .i64 100) := by
  have z := rowc HM11.out 64; rw [z]; exact cur_at HTK.out (i := 64) rfl
 have f0 : W11.frozen? ⟨g2, 64, none⟩ = false := frozen_of_row _ _ _ _ _ HM11.out
 go_upto_region 13 with fail
 obtain ⟨W12, hW⟩ : ∃ W, W = W11.setCell ⟨g2, 64, none⟩ (.int .i64 250) := ⟨_, rfl⟩
 rw [← hW]
 have HM12 := hidE (show W12.heap[g2]? = some (.cells (cur.setIfInBounds 64 (.int .i64 250)) 50 (0,0)) by rw [hW]; exact Go.heap_setCell_same _ _ _ _ _ _ HM11.out)
 have ho : ∀ (q : Nat) (cs : Array Value) (t : TypeId), W11.heap[q]? = some (Obj.cells cs t (0,0)) → t ≠ 50 → W12.heap[q]? = some (Obj.cells cs t (0,0)) := fun q cs t h ht => by
  rw [hW, heap_setCell_other _ _ _ _ (by rintro rfl; have e := h.symm.trans HM11.out; simp at e; exact ht e.2)]; exact h
 have LA12 := hidE (ho _ _ _ LA11.out (by decide))
 have LC12 := hidE (ho _ _ _ LC11.out (by decide))
 have hs : W12.heap.size = W11.heap.size := by rw [hW]; simp
 have BB12 := hidE (show Below W1.heap.size W1 W12 by rw [hW]; exact BB11.out.setCell (by show W1.heap.size ≤ g2; exact HG2.out) _)
 have J12 := hidE (SvJ.mk (ho _ _ _ J11.out.box (by decide)) (ho _ _ _ J11.out.cor (by decide)) (F1.out.below BB12.out))
 clear c0 f0 hW ho hs HM11 LA11 LC11 BB11 J11
 have c0 : W12.cell? ⟨g2, 65, none⟩ = some (.int .i64 0) := by
  have z := rowc HM12.out 65; rw [z, Array.getElem?_setIfInBounds_ne (by omega)]; exact cur_at HTK.out (i := 65) rfl
 have f0 : W12.frozen? ⟨g2, 65, none⟩ = false := frozen_of_row _ _ _ _ _ HM12.out
 go_upto_region 14 with fail
 obtain ⟨W13, hW⟩ : ∃ W, W = W12.setCell ⟨g2, 65, none⟩ (.int .i64 40) := ⟨_, rfl⟩
 rw [← hW]
 have HM13 := hidE (show W13.heap[g2]? = some (.cells ((cur.setIfInBounds 64 (.int .i64 250)).setIfInBounds 65 (.int .i64 40)) 50 (0,0)) by rw [hW]; exact Go.heap_setCell_same _ _ _ _ _ _ HM12.out)
 have ho : ∀ (q : Nat) (cs : Array Value) (t : TypeId), W12.heap[q]? = some (Obj.cells cs t (0,0)) → t ≠ 50 → W13.heap[q]? = some (Obj.cells cs t (0,0)) := fun q cs t h ht => by
  rw [hW, heap_setCell_other _ _ _ _ (by rintro rfl; have e := h.symm.trans HM12.out; simp at e; exact ht e.2)]; exact h
 have LA13 := hidE (ho _ _ _ LA12.out (by decide))
 have LC13 := hidE (ho _ _ _ LC12.out (by decide))
 have hs : W13.heap.size = W12.heap.size := by rw [hW]; simp
 have BB13 := hidE (show Below W1.heap.size W1 W13 by rw [hW]; exact BB12.out.setCell (by show W1.heap.size ≤ g2; exact HG2.out) _)
 have J13 := hidE (SvJ.mk (ho _ _ _ J12.out.box (by decide)) (ho _ _ _ J12.out.cor (by decide)) (F1.out.below BB13.out))
 clear c0 f0 hW ho hs HM12 LA12 LC12 BB12 J12
 have k0 := rowc J13.out.box
 have k1 := rowc J13.out.cor
 unfold FV.arr at k0
 have HC := hidE (sv_idle W13 x F HFE.out (some ⟨g2, 0, none⟩) cp J13.out.fld (rcds_row HM13.out (by rw [← set_held, ← HTK.out]; exact cur_set)))
 try unfold FV.val FV.arr at HC
 go_wp2_with fail
 refine HC.out.mono ?_
 rintro e W14 ⟨⟨q3, c3, cur3, rfl, hq3, Lx, T3⟩, hb⟩
 have BB14 := hidE (BB13.out.trans (hb.mono BB13.out.size))
 have J14 := hidE (J13.out.next hb)
 have LA14 := hidE (blk_below hb (lt_of_block LA13.out) LA13.out)
 have HM14 := hidE (blk_below hb (lt_of_block HM13.out) HM13.out)
 have LC14 := hidE (blk_below hb (lt_of_block LC13.out) LC13.out)
 have LI14 := Lx
 clear hb k0 k1 HC BB13 J13 LA13 HM13 LC13
 go_upto_region 18 with fail
 have HS1 := hidE (same4_lit W14 q1 c1 cur1 [1, 2, 3] 3 LA14.out T1.out rfl (by omega))
 unfold intsV at HS1
 simp only [List.map] at HS1
 go_wp2_with fail
 refine HS1.out.mono ?_
 rintro e W15 ⟨rfl, hb⟩
 have BB15 := hidE (BB14.out.trans (hb.mono BB14.out.size))
 have LC15 := hidE (blk_below hb (lt_of_block LC14.out) LC14.out)
 have LI15 := hidE (blk_below hb (lt_of_block LI14.out) LI14.out)
 clear hb HS1 BB14 LC14 LI14 LA14 J14 HM14
 have HS1 := hidE (same4_lit W15 q2 c2 cur2 [1, 2, 4] 3 LC15.out T2.out rfl (by omega))
 unfold intsV at HS1
 simp only [List.map] at HS1
 go_wp2_with fail
 refine HS1.out.mono ?_
 rintro e W16 ⟨rfl, hb⟩
 have BB16 := hidE (BB15.out.trans (hb.mono BB15.out.size))
 have LI16 := hidE (blk_below hb (lt_of_block LI15.out) LI15.out)
 clear hb HS1 BB15 LC15 LI15
 have HS1 := hidE (same4_lit W16 q3 c3 cur3 [4] 1 LI16.out T3.out rfl (by omega))
 unfold intsV at HS1
 simp only [List.map] at HS1
 go_wp2_with fail
 refine HS1.out.mono ?_
 rintro e W17 ⟨rfl, hb⟩
 have BB17 := hidE (BB16.out.trans (hb.mono BB16.out.size))
 clear hb HS1
 go_wp2_with fail
 go_ret
 exact ⟨rfl, BBW.out.trans (BB17.out.mono BBW.out.size)⟩
end Go.Proofs.YtkhemfnlflbniaaGreatDoor
