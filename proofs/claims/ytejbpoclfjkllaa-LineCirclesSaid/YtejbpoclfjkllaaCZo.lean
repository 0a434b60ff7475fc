/- Walk: the reference's steps. Conditions: valid bounds, at most 128 points. -/
import Derived.Test.YtejbpoclfjkllaaCYa
import Derived.Test.YtejbpoclfjkllaaP2
import Derived.IntWalk
namespace Go.Proofs.Ytejbpoclfjkllaa
open Go Go.RowKit Go.Shelf
attribute [local go_sem] Oper.semAt_some

/-- The outer cell of a row. -/
def slF (R q : Nat) : Value := .slice (some ⟨q, 0, none⟩) R R
/-- Rows of sums: the rows' slices at block B. -/
structure FrRows (W : World) (B R : Nat) (ads : List Nat) (f : Nat → List Fr) : Prop where
  out : W.heap[B]? = some (.cells (ads.map (slF R)).toArray 99 (0,0))
  row : ∀ i, i < ads.length → W.heap[ads.getD i 0]? = some (.cells (frCells (f i)).toArray 98 (0,0))
theorem FrRows.below {W W' : World} {B R : Nat} {ads : List Nat} {f : Nat → List Fr} (h : FrRows W B R ads f) (hb : Below W.heap.size W W') : FrRows W' B R ads f :=
  ⟨blk_below hb (lt_of_block h.out) h.out, fun i hi => blk_below hb (lt_of_block (h.row i hi)) (h.row i hi)⟩
theorem FrRows.slot {W : World} {B R : Nat} {ads : List Nat} {f : Nat → List Fr} (h : FrRows W B R ads f) {i : Nat} (hi : i < ads.length) : W.cell? ⟨B, i, none⟩ = some (.slice (some ⟨ads.getD i 0, 0, none⟩) R R) := by
  rw [cell_of_row _ _ _ _ _ _ h.out]
  simp [hi, slF]
theorem FrRows.cells {W : World} {B R : Nat} {ads : List Nat} {f : Nat → List Fr} (h : FrRows W B R ads f) {i j : Nat} (hi : i < ads.length) (hj : j < (f i).length) :
    W.cell? ⟨ads.getD i 0, j * 2, none⟩ = some (.int .i64 ((f i).getD j fr0).s) ∧ W.cell? ⟨ads.getD i 0, j * 2 + 1, none⟩ = some (.bool ((f i).getD j fr0).ok) := by
  refine ⟨?_, ?_⟩
  · rw [cell_of_row _ _ _ _ _ _ (h.row i hi), List.getElem?_toArray, frCells_get0 _ _ hj]
  · rw [cell_of_row _ _ _ _ _ _ (h.row i hi), List.getElem?_toArray, frCells_get1 _ _ hj]

/-- What stands between two rows. -/
structure SOut (w W : World) (R : Nat) (a : Option Addr) (len cap B M : Nat) (ads : List Nat) (f : Nat → List Fr) : Prop where
  x0 : W.heap[w.heap.size]? = some (.cells #[.int .i64 (R : Int), .slice a len cap] 24 (0,0))
  out : W.heap[B]? = some (.cells (ads.map (slF R) ++ List.replicate (M - ads.length) (Value.slice none 0 0)).toArray 99 (0,0))
  row : ∀ i, i < ads.length → W.heap[ads.getD i 0]? = some (.cells (frCells (f i)).toArray 98 (0,0))
  ne : ∀ i, i < ads.length → B < ads.getD i 0
  b0 : w.heap.size < B
  bl : Below w.heap.size w W
/-- What stands within one row. -/
structure SIn (w W : World) (R : Nat) (a : Option Addr) (len cap B M : Nat) (ads : List Nat) (q : Nat) (f : Nat → List Fr) (cur : List Fr) : Prop where
  x0 : W.heap[w.heap.size]? = some (.cells #[.int .i64 (R : Int), .slice a len cap] 24 (0,0))
  out : W.heap[B]? = some (.cells ((ads ++ [q]).map (slF R) ++ List.replicate (M - (ads.length + 1)) (Value.slice none 0 0)).toArray 99 (0,0))
  row : ∀ i, i < ads.length → W.heap[ads.getD i 0]? = some (.cells (frCells (f i)).toArray 98 (0,0))
  new : W.heap[q]? = some (.cells (frCells cur).toArray 98 (0,0))
  ne : ∀ i, i < ads.length → B < ads.getD i 0 ∧ ads.getD i 0 ≠ q
  bq : B < q
  b0 : w.heap.size < B
  len : cur.length = R
  bl : Below w.heap.size w W

theorem SOut.done {w W : World} {R : Nat} {a : Option Addr} {len cap B M : Nat} {ads : List Nat} {f : Nat → List Fr} (s : SOut w W R a len cap B M ads f) (h : ads.length = M) : FrRows W B R ads f := by
  refine ⟨?_, s.row⟩
  have := s.out
  rw [h, Nat.sub_self, List.replicate_zero, List.append_nil] at this
  exact this
theorem SIn.grow {w W W' : World} {R : Nat} {a : Option Addr} {len cap B M : Nat} {ads : List Nat} {q : Nat} {f : Nat → List Fr} {cur : List Fr} (s : SIn w W R a len cap B M ads q f cur) (hb : Below W.heap.size W W') : SIn w W' R a len cap B M ads q f cur :=
  ⟨blk_below hb (lt_of_block s.x0) s.x0, blk_below hb (lt_of_block s.out) s.out, fun i hi => blk_below hb (lt_of_block (s.row i hi)) (s.row i hi), blk_below hb (lt_of_block s.new) s.new, s.ne, s.bq, s.b0, s.len, s.bl.trans (hb.mono s.bl.size)⟩
theorem SIn.set {w W : World} {R : Nat} {a : Option Addr} {len cap B M : Nat} {ads : List Nat} {q : Nat} {f : Nat → List Fr} {cur : List Fr} (s : SIn w W R a len cap B M ads q f cur) {j : Nat} (hj : j < R) (x : Fr) :
    SIn w ((W.setCell ⟨q, j * 2, none⟩ (.int .i64 x.s)).setCell ⟨q, j * 2 + 1, none⟩ (.bool x.ok)) R a len cap B M ads q f (cur.set j x) := by
  have hbq := s.bq
  have hb0 := s.b0
  have ho : ∀ (c : Nat) {o : Obj}, c ≠ q → W.heap[c]? = some o → ((W.setCell ⟨q, j * 2, none⟩ (.int .i64 x.s)).setCell ⟨q, j * 2 + 1, none⟩ (.bool x.ok)).heap[c]? = some o := fun c o hne h =>
    (heap_setCell_other _ _ _ _ hne).trans ((heap_setCell_other _ _ _ _ hne).trans h)
  refine ⟨ho _ (by omega) s.x0, ho _ (by omega) s.out, fun i hi => ho _ (s.ne i hi).2 (s.row i hi), ?_, s.ne, s.bq, s.b0, by rw [List.length_set]; exact s.len, (s.bl.setCell (by show w.heap.size ≤ q; omega) _).setCell (by show w.heap.size ≤ q; omega) _⟩
  have h1 := heap_setCell_same _ _ (j * 2 + 1) _ _ (Value.bool x.ok) (heap_setCell_same _ _ (j * 2) _ _ (Value.int .i64 x.s) s.new)
  rw [h1]
  congr 2
  rw [← frCells_set _ _ _ (by rw [s.len]; exact hj)]
  simp
theorem SIn.close {w W : World} {R : Nat} {a : Option Addr} {len cap B M : Nat} {ads : List Nat} {q : Nat} {f : Nat → List Fr} {cur : List Fr} (s : SIn w W R a len cap B M ads q f cur) (hf : f ads.length = cur) : SOut w W R a len cap B M (ads ++ [q]) f := by
  refine ⟨s.x0, by rw [List.length_append]; exact s.out, fun i hi => ?_, fun i hi => ?_, s.b0, s.bl⟩
  · by_cases e : i < ads.length
    · rw [show (ads ++ [q]).getD i 0 = ads.getD i 0 by simp [List.getD_eq_getElem?_getD, List.getElem?_append_left e]]
      exact s.row i e
    · have e2 : i = ads.length := by simp at hi; omega
      subst e2
      rw [show (ads ++ [q]).getD ads.length 0 = q by simp [List.getD_eq_getElem?_getD]]
      rw [hf]; exact s.new
  · by_cases e : i < ads.length
    · rw [show (ads ++ [q]).getD i 0 = ads.getD i 0 by simp [List.getD_eq_getElem?_getD, List.getElem?_append_left e]]
      exact (s.ne i e).1
    · have e2 : i = ads.length := by simp at hi; omega
      subst e2
      rw [show (ads ++ [q]).getD ads.length 0 = q by simp [List.getD_eq_getElem?_getD]]
      exact s.bq
/-- A row is made. -/
theorem SOut.open {w W : World} {R : Nat} {a : Option Addr} {len cap B M : Nat} {ads : List Nat} {f : Nat → List Fr} (s : SOut w W R a len cap B M ads f) (hk : ads.length < M) :
    SIn w ((W.alloc (.cells (frCells (List.replicate R fr0)).toArray 98)).setCell ⟨B, ads.length, none⟩ (slF R W.heap.size)) R a len cap B M ads W.heap.size f (List.replicate R fr0) := by
  have lB := lt_of_block s.out
  have hb0 := s.b0
  have ha : ∀ (c : Nat) {o : Obj}, c ≠ B → W.heap[c]? = some o → ((W.alloc (.cells (frCells (List.replicate R fr0)).toArray 98)).setCell ⟨B, ads.length, none⟩ (slF R W.heap.size)).heap[c]? = some o := fun c o hne h =>
    (heap_setCell_other _ _ _ _ hne).trans ((Below.heap_alloc _ _ _ (lt_of_block h)).trans h)
  refine ⟨ha _ (by omega) s.x0, ?_, fun i hi => ha _ (by have := s.ne i hi; omega) (s.row i hi), ?_, fun i hi => ⟨s.ne i hi, ?_⟩, lB, s.b0, by simp, ?_⟩
  · have h1 := heap_setCell_same _ _ ads.length _ _ (slF R W.heap.size) ((Below.heap_alloc _ (.cells (frCells (List.replicate R fr0)).toArray 98) _ lB).trans s.out)
    rw [h1]
    congr 2
    obtain ⟨m, hm⟩ : ∃ m, M - ads.length = m + 1 := ⟨M - ads.length - 1, by omega⟩
    rw [hm, show M - (ads.length + 1) = m by omega, List.replicate_succ, List.setIfInBounds_toArray, List.set_append_right _ _ (by simp)]
    simp
  · exact (heap_setCell_other _ _ _ _ (by show W.heap.size ≠ B; omega)).trans (heap_alloc_new _ _)
  · have := lt_of_block (s.row i hi); omega
  · exact (s.bl.alloc s.bl.size _).setCell (by show w.heap.size ≤ B; omega) _

/-- What steps owes. -/
def StepsPost (R M : Nat) (f : Nat → List Fr) (e : Ending) (w' : World) : Prop := ∃ B ads, e = .returned (.slice (some ⟨B, 0, none⟩) M M) ∧ ads.length = M ∧ FrRows w' B R ads f

theorem step_bd {N : Nat} {l : List Bd} {tg : Nat} (hN : N ≤ 128) (hto : tg < N) (hv : AllValid N l) {k : Nat} (hk : k ≤ 129) {v : Nat} (hvN : v < N) (ho : ((stepsRow N l tg k).getD v fr0).ok = true) :
    -200000000 ≤ ((stepsRow N l tg k).getD v fr0).s ∧ ((stepsRow N l tg k).getD v fr0).s ≤ 200000000 := by
  rcases (stepsRow_same hN hto hv k hk).2 v hvN with ⟨h1, h2⟩ | ⟨_, h2⟩
  · rw [h2]
    rcases (walkOk_row hv tg k).2 v with e | e
    · rw [e] at h1; unfold farI at h1; omega
    · simp only; omega
  · rw [h2] at ho; simp at ho
theorem stepsRow_len (N : Nat) (l : List Bd) (tg : Nat) : ∀ k, (stepsRow N l tg k).length = N
  | 0 => by simp [stepsRow]
  | k + 1 => by
    have : ∀ (l' : List Bd) (cur nx : List Fr), (l'.foldl (stepF cur) nx).length = nx.length := by
      intro l'
      induction l' with
      | nil => intro cur nx; rfl
      | cons b l' ih => intro cur nx; rw [List.foldl_cons, ih]; unfold stepF; split <;> simp
    unfold stepsRow
    rw [this]; simp

set_option maxRecDepth 100000 in
set_option maxHeartbeats 4000000 in
theorem steps_any (w : World) (R : Nat) (a : Option Addr) (cap : Nat) (bs : List Bd) (tg n s : Nat) (least : Int) (hR : R ≤ 128) (hto : tg < R) (hn : n ≤ 128) (hs : least + 1 = (s : Int)) (hl : bs.length ≤ 4000) (hsl : s ≤ bs.length) (h : BoundsAt w a bs) (hv : AllValid R bs) :
    Calls Try.prog 118 #[.agg #[.int .i64 (R : Int), .slice a bs.length cap], .int .i64 (tg : Int), .int .i64 (n : Int), .int .i64 least] w fun e w' => StepsPost R (n + 1) (stepsRow R (bs.drop s) tg) e w' ∧ Below w.heap.size w w' := by
  obtain ⟨M, hM⟩ : ∃ M, n + 1 = M := ⟨_, rfl⟩
  have hmk := fun W => run_make_row' (P := Try.prog) 91 99 (.slice none 0 0) 24 Try.underlying91 Try.info99 rfl .i64 .i64 M (by omega) (by omega) W
  have hmf := fun W => run_make_fr R (by omega) W
  have hM' : IntKind.i64.wrap ((n : Int) + 1) = (M : Int) := by rw [IntWalk.i64_in _ (by omega)]; omega
  have hvd : AllValid R (bs.drop s) := fun b hb => hv b (List.mem_of_mem_drop hb)
  have hbd := fun (k : Nat) (hk : k ≤ 129) (v : Nat) (hvN : v < R) => step_bd hR hto hvd hk hvN
  have hfl := stepsRow_len R (bs.drop s) tg
  have hf0 : stepsRow R (bs.drop s) tg 0 = (List.replicate R fr0).set tg ⟨0, true⟩ := rfl
  have hfs : ∀ k, stepsRow R (bs.drop s) tg (k + 1) = (bs.drop s).foldl (stepF (stepsRow R (bs.drop s) tg k)) (List.replicate R fr0) := fun k => rfl
  obtain ⟨f, hf⟩ : ∃ f, stepsRow R (bs.drop s) tg = f := ⟨_, rfl⟩
  rw [hf] at hbd hfl hf0 hfs ⊢
  obtain ⟨W0, hW0⟩ : ∃ X, X = (w.alloc (.cells #[.int .i64 (R : Int), .slice a bs.length cap] 24)).alloc (.cells (madeCells #[.slice none 0 0] M) 99) := ⟨_, rfl⟩
  obtain ⟨B, hB⟩ : ∃ B, B = w.heap.size + 1 := ⟨_, rfl⟩
  have st0 : SOut w W0 R a bs.length cap B M [] f := by
    rw [hW0, hB]
    refine ⟨?_, ?_, fun i hi => by simp at hi, fun i hi => by simp at hi, by omega, ((Below.refl _ _).alloc (Nat.le_refl _) _).alloc (by simp) _⟩
    · rw [Below.heap_alloc _ _ _ (by simp), heap_alloc_new]
    · rw [heap_alloc_at _ _ _ (by simp)]
      congr 2
      rw [List.length_nil, Nat.sub_zero, List.map_nil, List.nil_append, ← toList_madeCells_one]
  have hdr : ∀ j, s + j < bs.length → (bs.drop s).take (j + 1) = (bs.drop s).take j ++ [bs.getD (s + j) bd0] := by
    intro j hj
    rw [List.take_succ_eq_append_getElem (by simp; omega)]
    simp [List.getD_eq_getElem?_getD, hj]
  have ST0 := hidE st0
  have HW0 := hidE hW0
  have HBE := hidE hB
  have H := hidE h
  have HV := hidE hv
  have HBD := hidE hbd
  have HFL := hidE hfl
  have HF0 := hidE hf0
  have HFS := hidE hfs
  have HDR := hidE hdr
  have HS := hidE hs
  have HMN := hidE hM
  have hMb : M ≤ 129 := by omega
  have hwl : IntKind.i64.wrap (least + 1) = (s : Int) := by rw [IntWalk.i64_in _ (by omega)]; omega
  clear hB st0 hW0 h hv hbd hfl hf0 hfs hf hdr hs hM hvd
  go_enter Try.func118, Try.ntmps118
  go_upto_region 2 with fail
  rw [← HBE.out, ← HW0.out]
  clear hmk hM' HW0
  go_wp2_with fail
  go_loopw [10] (fun i wr => ∃ (k : Nat) (ads : List Nat), k ≤ M ∧ i = .int .i64 k ∧ Hid (ads.length = k) ∧ Hid (SOut w wr R a bs.length cap B M ads f)) (fun i _ => M - (intOf i).toNat)
  case atStart => exact ⟨0, [], by omega, rfl, hidE rfl, ST0⟩
  case round =>
    obtain ⟨k, ads, hk, rfl, hlen, hst⟩ := hrel
    have e0 : wr.cell? ⟨w.heap.size, 0, none⟩ = some (.int .i64 (R : Int)) := by rw [cell_of_row _ _ _ _ _ _ hst.out.x0]; rfl
    have l0 : w.heap.size < wr.heap.size := lt_of_block hst.out.x0
    by_cases hlt : k < M
    · have kn : (k : Int) ≤ (n : Int) := by have := HMN.out; omega
      have kM : (k : Int) < (M : Int) := by omega
      have s0 : wr.cell? ⟨B, k, none⟩ = some (.slice none 0 0) := by
        rw [cell_of_row _ _ _ _ _ _ hst.out.out, List.getElem?_toArray, List.getElem?_append_right (by rw [List.length_map, hlen.out]; omega), List.getElem?_replicate, if_pos (by rw [List.length_map, hlen.out]; omega)]
      have s1 : wr.frozen? ⟨B, k, none⟩ = false := frozen_of_row _ _ _ _ _ hst.out.out
      have lB : B < wr.heap.size := lt_of_block hst.out.out
      have hop := hst.out.open (by rw [hlen.out]; exact hlt)
      rw [hlen.out] at hop
      go_upto_region 6 with fail
      obtain ⟨W1, hW1⟩ : ∃ X, X = (wr.alloc (.cells (frCells (List.replicate R fr0)).toArray 98)).setCell ⟨B, k, none⟩ (slF R wr.heap.size) := ⟨_, rfl⟩
      obtain ⟨q, hq⟩ : ∃ q, q = wr.heap.size := ⟨_, rfl⟩
      rw [← hW1] at hop
      first
        | rw [show (wr.alloc (.cells (frCells (List.replicate R fr0)).toArray 98)).setCell ⟨B, k, none⟩ (.slice (some ⟨wr.heap.size, 0, none⟩) R R) = W1 from hW1.symm]
        | rw [show (wr.setCell ⟨B, k, none⟩ (.slice (some ⟨wr.heap.size, 0, none⟩) R R)).alloc (.cells (frCells (List.replicate R fr0)).toArray 98) = W1 from by rw [hW1]; exact (World.setCell_alloc_past _ _ _ _ lB).symm]
      rw [← hq] at hop ⊢
      have SI := hidE hop
      clear hW1 hq hop s0 s1 e0 l0 lB
      have lq : q < W1.heap.size := lt_of_block SI.out.new
      have t0 : W1.cell? ⟨B, k, none⟩ = some (.slice (some ⟨q, 0, none⟩) R R) := by
        rw [cell_of_row _ _ _ _ _ _ SI.out.out, List.getElem?_toArray, List.getElem?_append_left (by simp [hlen.out]), List.map_append, List.getElem?_append_right (by simp [hlen.out])]
        simp [hlen.out, slF]
      by_cases hk0 : k = 0
      · subst hk0
        have hRl : tg < (List.replicate R fr0).length := by simpa using hto
        have toR : (tg : Int) < (R : Int) := by omega
        have u0 : W1.cell? ⟨q, tg * 2, none⟩ = some (.int .i64 0) := by rw [cell_of_row _ _ _ _ _ _ SI.out.new, List.getElem?_toArray, frCells_get0 _ _ hRl]; simp [fr0, hto]
        have u1 : W1.cell? ⟨q, tg * 2 + 1, none⟩ = some (.bool false) := by rw [cell_of_row _ _ _ _ _ _ SI.out.new, List.getElem?_toArray, frCells_get1 _ _ hRl]; simp [fr0, hto]
        have u2 : ∀ i, W1.frozen? ⟨q, i, none⟩ = false := fun i => frozen_of_row _ _ _ _ _ SI.out.new
        have M0 : (0 : Int) < (M : Int) := by omega
        have M0' : 0 < M := by omega
        clear hRl
        go_wp2_with fail
        go_roundw
        case rel =>
          refine ⟨1, ads ++ [q], by omega, by go_num, hidE (by rw [List.length_append, hlen.out]; rfl), hidE ?_⟩
          exact (SI.out.set hto ⟨0, true⟩).close (by rw [hlen.out]; exact HF0.out)
        case measure => simp [intOf]; omega
      · obtain ⟨m, hkm'⟩ : ∃ m, k = m + 1 := ⟨k - 1, by omega⟩
        have hkm : (k : Int) - 1 = (m : Int) := by omega
        have wkm : IntKind.i64.wrap ((k : Int) - 1) = (m : Int) := by rw [IntWalk.i64_in _ (by omega)]; omega
        have wm : IntKind.i64.wrap (m : Int) = (m : Int) := IntWalk.i64_in _ (by omega)
        have kb : ((k : Int) == 0) = false := by simp; omega
        have mM : (m : Int) < (M : Int) := by omega
        have hmn : m < n := by have := HMN.out; omega
        have HKM := hidE hkm'
        clear hkm' hk0
        go_wp2_with fail
        clear t0
        go_loopw [11] (fun i wx => ∃ j : Nat, s + j ≤ bs.length ∧ i = .int .i64 ((s + j : Nat) : Int) ∧ Hid (SIn w wx R a bs.length cap B M ads q f (((bs.drop s).take j).foldl (stepF (f m)) (List.replicate R fr0)))) (fun i _ => bs.length - (intOf i).toNat)
        case atStart => exact ⟨0, by omega, rfl, SI⟩
        case round =>
          obtain ⟨wx, rfl⟩ : ∃ x : World, x = wr := ⟨wr, rfl⟩
          obtain ⟨j, hj, rfl, hst⟩ := hrel
          have e1 : wx.cell? ⟨w.heap.size, 1, none⟩ = some (.slice a bs.length cap) := by rw [cell_of_row _ _ _ _ _ _ hst.out.x0]; rfl
          obtain ⟨i, hi⟩ : ∃ i, i = s + j := ⟨_, rfl⟩
          rw [← hi]
          by_cases hlb : i < bs.length
          · obtain ⟨bb, off, rfl, hbl, hcs⟩ := H.out.at hlb
            obtain ⟨c0, c1, c2, c3⟩ := hcs.below hst.out.bl hbl
            have hval := HV.out bs[i] (List.getElem_mem _)
            have hxd : bs.getD i bd0 = bs[i] := by simp [List.getD_eq_getElem?_getD, hlb]
            have hfold : (((bs.drop s).take (j + 1)).foldl (stepF (f m)) (List.replicate R fr0)) = stepF (f m) (((bs.drop s).take j).foldl (stepF (f m)) (List.replicate R fr0)) bs[i] := by
              rw [HDR.out j (by omega), List.foldl_append, ← hi, hxd]; rfl
            obtain ⟨x, hx⟩ : ∃ x, bs[i] = x := ⟨_, rfl⟩
            rw [hx] at c0 c1 c2 c3 hval hfold
            obtain ⟨cur, hcur⟩ : ∃ c, ((bs.drop s).take j).foldl (stepF (f m)) (List.replicate R fr0) = c := ⟨_, rfl⟩
            rw [hcur] at hfold hst
            obtain ⟨ys, yd, ym, yr⟩ := x
            obtain ⟨v1, v2, v3, v4, v5, v6⟩ := hval
            simp only at c0 c1 c2 c3 v1 v2 v3 v4 v5 v6
            obtain ⟨si, rfl⟩ := Int.eq_ofNat_of_zero_le v1
            obtain ⟨di, rfl⟩ := Int.eq_ofNat_of_zero_le v3
            have hfold2 := hfold.trans (show stepF (f m) cur ⟨(si : Int), (di : Int), ym, yr⟩ = if ((f m).getD di fr0).ok = true then cur.set si (lesserP (cur.getD si fr0) (plusP ((f m).getD di fr0) ym)) else cur by unfold stepF; simp only [Int.toNat_natCast])
            clear hfold
            have hfold := hfold2
            clear hfold2
            have siR : (si : Int) < (R : Int) := v2
            have diR : (di : Int) < (R : Int) := v4
            have siR' : si < R := by omega
            have diR' : di < R := by omega
            have HFO := hidE hfold
            have HI := hidE hi
            have iL : (i : Int) < (bs.length : Int) := by omega
            clear hfold hi hx hxd hcur hcs
            go_upto_region 12 with fail
            obtain ⟨W2, hW2⟩ : ∃ X, X = wx.alloc (Obj.cells #[.int .i64 (si : Int), .int .i64 (di : Int), .int .i64 ym, .int .i64 yr] 44) := ⟨_, rfl⟩
            rw [← hW2]
            obtain ⟨h, hh⟩ : ∃ h, h = wx.heap.size := ⟨_, rfl⟩
            rw [← hh]
            have hbx : W2.heap[h]? = some (.cells #[.int .i64 (si : Int), .int .i64 (di : Int), .int .i64 ym, .int .i64 yr] 44 (0,0)) := by rw [hW2, hh]; exact heap_alloc_new _ _
            have hst2 := hidE (hst.out.grow (W' := W2) (by rw [hW2]; exact (Below.refl _ _).alloc (Nat.le_refl _) _))
            have d0 : W2.cell? ⟨h, 0, none⟩ = some (.int .i64 (si : Int)) := by rw [cell_of_row _ _ _ _ _ _ hbx]; rfl
            have d1 : W2.cell? ⟨h, 1, none⟩ = some (.int .i64 (di : Int)) := by rw [cell_of_row _ _ _ _ _ _ hbx]; rfl
            have d2 : W2.cell? ⟨h, 2, none⟩ = some (.int .i64 ym) := by rw [cell_of_row _ _ _ _ _ _ hbx]; rfl
            have HBX := hidE hbx
            clear hW2 hh hbx c0 c1 c2 c3 e1 hst
            have hml : m < ads.length := by rw [hlen.out, HKM.out]; omega
            have d3 : W2.cell? ⟨B, k, none⟩ = some (.slice (some ⟨q, 0, none⟩) R R) := by
              rw [cell_of_row _ _ _ _ _ _ hst2.out.out, List.getElem?_toArray, List.getElem?_append_left (by simp [hlen.out]), List.map_append, List.getElem?_append_right (by simp [hlen.out])]
              simp [hlen.out, slF]
            obtain ⟨pq, hpq⟩ : ∃ p, ads.getD m 0 = p := ⟨_, rfl⟩
            have d4 : W2.cell? ⟨B, m, none⟩ = some (.slice (some ⟨pq, 0, none⟩) R R) := by
              rw [cell_of_row _ _ _ _ _ _ hst2.out.out, List.getElem?_toArray, List.getElem?_append_left (by simp [hlen.out]; omega), List.map_append, List.getElem?_append_left (by simpa using hml), ← hpq]
              simp [hml, slF]
            have hrw := hst2.out.row m hml
            rw [hpq] at hrw
            have d7 : W2.cell? ⟨pq, di * 2, none⟩ = some (.int .i64 ((f m).getD di fr0).s) := by rw [cell_of_row _ _ _ _ _ _ hrw, List.getElem?_toArray, frCells_get0 _ _ (by rw [HFL.out]; exact diR')]
            have d8 : W2.cell? ⟨pq, di * 2 + 1, none⟩ = some (.bool ((f m).getD di fr0).ok) := by rw [cell_of_row _ _ _ _ _ _ hrw, List.getElem?_toArray, frCells_get1 _ _ (by rw [HFL.out]; exact diR')]
            have lp : pq < W2.heap.size := lt_of_block hrw
            have pbd := HBD.out m (by omega) di diR'
            obtain ⟨⟨ps, po⟩, hpp⟩ : ∃ x, (f m).getD di fr0 = x := ⟨_, rfl⟩
            rw [hpp] at d7 d8 pbd
            have HFO2 := HFO.out
            rw [hpp] at HFO2
            simp only at d7 d8 pbd HFO2
            have HF2 := hidE HFO2
            clear hpp hpq hrw HFO2 HFO
            cases po with
            | false =>
              have HF3 := hidE HF2.out
              clear pbd
              go_wp2_with fail
              go_quiet (fail)
              obtain ⟨Y, hY⟩ : ∃ Y, Y = W2.drewN nq := ⟨_, rfl⟩
              rw [← hY]
              have HSY := hidE (hst2.out.grow (show Below W2.heap.size W2 Y by rw [hY]; exact below_drewN' _ _))
              clear hY d0 d1 d2 d3 d4 d7 d8
              go_wp2_with fail
              go_roundw
              case rel => exact ⟨j + 1, by have := HI.out; omega, by rw [show s + (j + 1) = i + 1 by have := HI.out; omega]; go_num, hidE (by rw [HF3.out, if_neg (by simp)]; exact HSY.out)⟩
              case measure => simp [intOf]; omega
            | true =>
              obtain ⟨p1, p2⟩ := pbd rfl
              clear pbd
              go_wp2_with fail
              go_quiet (fail)
              obtain ⟨Y, hY⟩ : ∃ Y, Y = W2.drewN nq := ⟨_, rfl⟩
              rw [← hY]
              have bY : Below W2.heap.size W2 Y := by rw [hY]; exact below_drewN' _ _
              have HSY := hidE (hst2.out.grow bY)
              have lh2 : h < W2.heap.size := lt_of_block HBX.out
              have lB2 : B < W2.heap.size := lt_of_block hst2.out.out
              have o0 := (bY.cell (p := ⟨h, 0, none⟩) lh2).trans d0
              have o1 := (bY.cell (p := ⟨h, 1, none⟩) lh2).trans d1
              have o2 := (bY.cell (p := ⟨h, 2, none⟩) lh2).trans d2
              have o3 := (bY.cell (p := ⟨B, k, none⟩) lB2).trans d3
              have o4 := (bY.cell (p := ⟨B, m, none⟩) lB2).trans d4
              have o7 := (bY.cell (p := ⟨pq, di * 2, none⟩) lp).trans d7
              have o8 := (bY.cell (p := ⟨pq, di * 2 + 1, none⟩) lp).trans d8
              have o5 : Y.cell? ⟨q, si * 2, none⟩ = some (.int .i64 (cur.getD si fr0).s) := by rw [cell_of_row _ _ _ _ _ _ HSY.out.new, List.getElem?_toArray, frCells_get0 _ _ (by rw [HSY.out.len]; exact siR')]
              have o6 : Y.cell? ⟨q, si * 2 + 1, none⟩ = some (.bool (cur.getD si fr0).ok) := by rw [cell_of_row _ _ _ _ _ _ HSY.out.new, List.getElem?_toArray, frCells_get1 _ _ (by rw [HSY.out.len]; exact siR')]
              obtain ⟨⟨cs, co⟩, hcc⟩ : ∃ x, cur.getD si fr0 = x := ⟨_, rfl⟩
              rw [hcc] at o5 o6
              simp only at o5 o6
              have HF3 := HF2.out
              rw [hcc] at HF3
              have HF4 := hidE HF3
              have lh : h < Y.heap.size := Nat.lt_of_lt_of_le lh2 bY.size
              have lB : B < Y.heap.size := Nat.lt_of_lt_of_le lB2 bY.size
              have lp' : pq < Y.heap.size := Nat.lt_of_lt_of_le lp bY.size
              have lq : q < Y.heap.size := lt_of_block HSY.out.new
              clear hY bY d0 d1 d2 d3 d4 d7 d8 HF2 HF3 hcc lp lh2 lB2 hst2
              have lp := lp'
              clear lp'
              go_upto_region 13 with fail
              refine wp_region_F (S := fun V => V.cell? ⟨h, 0, none⟩ = some (.int .i64 (si : Int)) ∧ V.cell? ⟨h, 1, none⟩ = some (.int .i64 (di : Int)) ∧ V.cell? ⟨h, 2, none⟩ = some (.int .i64 ym) ∧ V.cell? ⟨B, k, none⟩ = some (.slice (some ⟨q, 0, none⟩) R R) ∧ V.cell? ⟨B, m, none⟩ = some (.slice (some ⟨pq, 0, none⟩) R R) ∧ V.cell? ⟨q, si * 2, none⟩ = some (.int .i64 cs) ∧ V.cell? ⟨q, si * 2 + 1, none⟩ = some (.bool co) ∧ V.cell? ⟨pq, di * 2, none⟩ = some (.int .i64 ps) ∧ V.cell? ⟨pq, di * 2 + 1, none⟩ = some (.bool true)) (last := 28) (by kernel_rfl) ?_
              have hS0 : Y.drew.cell? ⟨h, 0, none⟩ = some (.int .i64 (si : Int)) ∧ Y.drew.cell? ⟨h, 1, none⟩ = some (.int .i64 (di : Int)) ∧ Y.drew.cell? ⟨h, 2, none⟩ = some (.int .i64 ym) ∧ Y.drew.cell? ⟨B, k, none⟩ = some (.slice (some ⟨q, 0, none⟩) R R) ∧ Y.drew.cell? ⟨B, m, none⟩ = some (.slice (some ⟨pq, 0, none⟩) R R) ∧ Y.drew.cell? ⟨q, si * 2, none⟩ = some (.int .i64 cs) ∧ Y.drew.cell? ⟨q, si * 2 + 1, none⟩ = some (.bool co) ∧ Y.drew.cell? ⟨pq, di * 2, none⟩ = some (.int .i64 ps) ∧ Y.drew.cell? ⟨pq, di * 2 + 1, none⟩ = some (.bool true) := ⟨o0, o1, o2, o3, o4, o5, o6, o7, o8⟩
              refine wpAnyF_take (i := 0) (v := (.slice (some ⟨B, 0, none⟩) M M)) (by kernel_rfl) (by decide) rfl (by kernel_rfl) (by kernel_rfl) (by kernel_rfl) (fun _ _ _ h => h) (.inl ⟨rfl, fun V hV => ?_⟩) hS0 ?_
              · obtain ⟨z0, z1, z2, z3, z4, z5, z6, z7, z8⟩ := hV
                simp [go_sem, execOp]
              simp only [Act.put, List.setIfInBounds_toArray]
              refine wpAnyF_take (i := 1) (v := (.int .i64 (k : Int))) (by kernel_rfl) (by decide) rfl (by kernel_rfl) (by kernel_rfl) (by kernel_rfl) (fun _ _ _ h => h) (.inl ⟨rfl, fun V hV => ?_⟩) hS0 ?_
              · obtain ⟨z0, z1, z2, z3, z4, z5, z6, z7, z8⟩ := hV
                simp [go_sem, execOp]
              simp only [Act.put]
              refine wpAnyF_take (i := 2) (v := (.pointer (some ⟨B, k, none⟩))) (by kernel_rfl) (by decide) rfl (by kernel_rfl) (by kernel_rfl) (by kernel_rfl) (fun _ _ _ h => h) (.inl ⟨rfl, fun V hV => ?_⟩) hS0 ?_
              · obtain ⟨z0, z1, z2, z3, z4, z5, z6, z7, z8⟩ := hV
                simp [go_sem, execOp, kM]
              simp only [Act.put]
              refine wpAnyF_take (i := 3) (v := (.slice (some ⟨q, 0, none⟩) R R)) (by kernel_rfl) (by decide) rfl (by kernel_rfl) (by kernel_rfl) (by kernel_rfl) (fun _ _ _ h => h) (.inl ⟨rfl, fun V hV => ?_⟩) hS0 ?_
              · obtain ⟨z0, z1, z2, z3, z4, z5, z6, z7, z8⟩ := hV
                simp [go_sem, execOp, z3]
              simp only [Act.put]
              refine wpAnyF_take (i := 4) (v := (.pointer (some ⟨h, 0, none⟩))) (by kernel_rfl) (by decide) rfl (by kernel_rfl) (by kernel_rfl) (by kernel_rfl) (fun _ _ _ h => h) (.inl ⟨rfl, fun V hV => ?_⟩) hS0 ?_
              · obtain ⟨z0, z1, z2, z3, z4, z5, z6, z7, z8⟩ := hV
                simp [go_sem, execOp]
              simp only [Act.put]
              refine wpAnyF_take (i := 5) (v := (.int .i64 (si : Int))) (by kernel_rfl) (by decide) rfl (by kernel_rfl) (by kernel_rfl) (by kernel_rfl) (fun _ _ _ h => h) (.inl ⟨rfl, fun V hV => ?_⟩) hS0 ?_
              · obtain ⟨z0, z1, z2, z3, z4, z5, z6, z7, z8⟩ := hV
                simp [go_sem, execOp, z0]
              simp only [Act.put]
              refine wpAnyF_take (i := 6) (v := (.slice (some ⟨B, 0, none⟩) M M)) (by kernel_rfl) (by decide) rfl (by kernel_rfl) (by kernel_rfl) (by kernel_rfl) (fun _ _ _ h => h) (.inl ⟨rfl, fun V hV => ?_⟩) hS0 ?_
              · obtain ⟨z0, z1, z2, z3, z4, z5, z6, z7, z8⟩ := hV
                simp [go_sem, execOp]
              simp only [Act.put]
              refine wpAnyF_take (i := 7) (v := (.int .i64 (k : Int))) (by kernel_rfl) (by decide) rfl (by kernel_rfl) (by kernel_rfl) (by kernel_rfl) (fun _ _ _ h => h) (.inl ⟨rfl, fun V hV => ?_⟩) hS0 ?_
              · obtain ⟨z0, z1, z2, z3, z4, z5, z6, z7, z8⟩ := hV
                simp [go_sem, execOp]
              simp only [Act.put]
              refine wpAnyF_take (i := 8) (v := (.pointer (some ⟨B, k, none⟩))) (by kernel_rfl) (by decide) rfl (by kernel_rfl) (by kernel_rfl) (by kernel_rfl) (fun _ _ _ h => h) (.inl ⟨rfl, fun V hV => ?_⟩) hS0 ?_
              · obtain ⟨z0, z1, z2, z3, z4, z5, z6, z7, z8⟩ := hV
                simp [go_sem, execOp, kM]
              simp only [Act.put]
              refine wpAnyF_take (i := 9) (v := (.slice (some ⟨q, 0, none⟩) R R)) (by kernel_rfl) (by decide) rfl (by kernel_rfl) (by kernel_rfl) (by kernel_rfl) (fun _ _ _ h => h) (.inl ⟨rfl, fun V hV => ?_⟩) hS0 ?_
              · obtain ⟨z0, z1, z2, z3, z4, z5, z6, z7, z8⟩ := hV
                simp [go_sem, execOp, z3]
              simp only [Act.put]
              refine wpAnyF_take (i := 10) (v := (.pointer (some ⟨h, 0, none⟩))) (by kernel_rfl) (by decide) rfl (by kernel_rfl) (by kernel_rfl) (by kernel_rfl) (fun _ _ _ h => h) (.inl ⟨rfl, fun V hV => ?_⟩) hS0 ?_
              · obtain ⟨z0, z1, z2, z3, z4, z5, z6, z7, z8⟩ := hV
                simp [go_sem, execOp]
              simp only [Act.put]
              refine wpAnyF_take (i := 11) (v := (.int .i64 (si : Int))) (by kernel_rfl) (by decide) rfl (by kernel_rfl) (by kernel_rfl) (by kernel_rfl) (fun _ _ _ h => h) (.inl ⟨rfl, fun V hV => ?_⟩) hS0 ?_
              · obtain ⟨z0, z1, z2, z3, z4, z5, z6, z7, z8⟩ := hV
                simp [go_sem, execOp, z0]
              simp only [Act.put]
              refine wpAnyF_take (i := 12) (v := (.pointer (some ⟨q, si * 2, none⟩))) (by kernel_rfl) (by decide) rfl (by kernel_rfl) (by kernel_rfl) (by kernel_rfl) (fun _ _ _ h => h) (.inl ⟨rfl, fun V hV => ?_⟩) hS0 ?_
              · obtain ⟨z0, z1, z2, z3, z4, z5, z6, z7, z8⟩ := hV
                simp [go_sem, execOp, siR]
              simp only [Act.put]
              refine wpAnyF_take (i := 13) (v := (.agg #[.int .i64 cs, .bool co])) (by kernel_rfl) (by decide) rfl (by kernel_rfl) (by kernel_rfl) (by kernel_rfl) (fun _ _ _ h => h) (.inl ⟨rfl, fun V hV => ?_⟩) hS0 ?_
              · obtain ⟨z0, z1, z2, z3, z4, z5, z6, z7, z8⟩ := hV
                simp [go_sem, execOp, z5, z6]
              simp only [Act.put]
              refine wpAnyF_take (i := 14) (v := (.slice (some ⟨B, 0, none⟩) M M)) (by kernel_rfl) (by decide) rfl (by kernel_rfl) (by kernel_rfl) (by kernel_rfl) (fun _ _ _ h => h) (.inl ⟨rfl, fun V hV => ?_⟩) hS0 ?_
              · obtain ⟨z0, z1, z2, z3, z4, z5, z6, z7, z8⟩ := hV
                simp [go_sem, execOp]
              simp only [Act.put]
              refine wpAnyF_take (i := 15) (v := (.int .i64 (k : Int))) (by kernel_rfl) (by decide) rfl (by kernel_rfl) (by kernel_rfl) (by kernel_rfl) (fun _ _ _ h => h) (.inl ⟨rfl, fun V hV => ?_⟩) hS0 ?_
              · obtain ⟨z0, z1, z2, z3, z4, z5, z6, z7, z8⟩ := hV
                simp [go_sem, execOp]
              simp only [Act.put]
              refine wpAnyF_take (i := 16) (v := (.int .i64 (m : Int))) (by kernel_rfl) (by decide) rfl (by kernel_rfl) (by kernel_rfl) (by kernel_rfl) (fun _ _ _ h => h) (.inl ⟨rfl, fun V hV => ?_⟩) hS0 ?_
              · obtain ⟨z0, z1, z2, z3, z4, z5, z6, z7, z8⟩ := hV
                simp [go_sem, execOp, wm, hkm]
              simp only [Act.put]
              refine wpAnyF_take (i := 17) (v := (.pointer (some ⟨B, m, none⟩))) (by kernel_rfl) (by decide) rfl (by kernel_rfl) (by kernel_rfl) (by kernel_rfl) (fun _ _ _ h => h) (.inl ⟨rfl, fun V hV => ?_⟩) hS0 ?_
              · obtain ⟨z0, z1, z2, z3, z4, z5, z6, z7, z8⟩ := hV
                simp [go_sem, execOp, mM]
              simp only [Act.put]
              refine wpAnyF_take (i := 18) (v := (.slice (some ⟨pq, 0, none⟩) R R)) (by kernel_rfl) (by decide) rfl (by kernel_rfl) (by kernel_rfl) (by kernel_rfl) (fun _ _ _ h => h) (.inl ⟨rfl, fun V hV => ?_⟩) hS0 ?_
              · obtain ⟨z0, z1, z2, z3, z4, z5, z6, z7, z8⟩ := hV
                simp [go_sem, execOp, z4]
              simp only [Act.put]
              refine wpAnyF_take (i := 19) (v := (.pointer (some ⟨h, 1, none⟩))) (by kernel_rfl) (by decide) rfl (by kernel_rfl) (by kernel_rfl) (by kernel_rfl) (fun _ _ _ h => h) (.inl ⟨rfl, fun V hV => ?_⟩) hS0 ?_
              · obtain ⟨z0, z1, z2, z3, z4, z5, z6, z7, z8⟩ := hV
                simp [go_sem, execOp]
              simp only [Act.put]
              refine wpAnyF_take (i := 20) (v := (.int .i64 (di : Int))) (by kernel_rfl) (by decide) rfl (by kernel_rfl) (by kernel_rfl) (by kernel_rfl) (fun _ _ _ h => h) (.inl ⟨rfl, fun V hV => ?_⟩) hS0 ?_
              · obtain ⟨z0, z1, z2, z3, z4, z5, z6, z7, z8⟩ := hV
                simp [go_sem, execOp, z1]
              simp only [Act.put]
              refine wpAnyF_take (i := 21) (v := (.pointer (some ⟨pq, di * 2, none⟩))) (by kernel_rfl) (by decide) rfl (by kernel_rfl) (by kernel_rfl) (by kernel_rfl) (fun _ _ _ h => h) (.inl ⟨rfl, fun V hV => ?_⟩) hS0 ?_
              · obtain ⟨z0, z1, z2, z3, z4, z5, z6, z7, z8⟩ := hV
                simp [go_sem, execOp, diR]
              simp only [Act.put]
              refine wpAnyF_take (i := 22) (v := (.agg #[.int .i64 ps, .bool true])) (by kernel_rfl) (by decide) rfl (by kernel_rfl) (by kernel_rfl) (by kernel_rfl) (fun _ _ _ h => h) (.inl ⟨rfl, fun V hV => ?_⟩) hS0 ?_
              · obtain ⟨z0, z1, z2, z3, z4, z5, z6, z7, z8⟩ := hV
                simp [go_sem, execOp, z7, z8]
              simp only [Act.put]
              refine wpAnyF_take (i := 23) (v := (.pointer (some ⟨h, 2, none⟩))) (by kernel_rfl) (by decide) rfl (by kernel_rfl) (by kernel_rfl) (by kernel_rfl) (fun _ _ _ h => h) (.inl ⟨rfl, fun V hV => ?_⟩) hS0 ?_
              · obtain ⟨z0, z1, z2, z3, z4, z5, z6, z7, z8⟩ := hV
                simp [go_sem, execOp]
              simp only [Act.put]
              refine wpAnyF_take (i := 24) (v := (.int .i64 ym)) (by kernel_rfl) (by decide) rfl (by kernel_rfl) (by kernel_rfl) (by kernel_rfl) (fun _ _ _ h => h) (.inl ⟨rfl, fun V hV => ?_⟩) hS0 ?_
              · obtain ⟨z0, z1, z2, z3, z4, z5, z6, z7, z8⟩ := hV
                simp [go_sem, execOp, z2]
              simp only [Act.put]
              refine wpAnyF_step 25 rfl (by kernel_rfl) (fun K hK => ?_)
              go_simp
              go_at_call 137
              refine (plus_at _ _ _ _ (by omega) (by omega) (by omega) (by omega)).mono ?_
              rintro e w3 ⟨rfl, hb3⟩
              go_wp2_with fail
              have k0 := (hb3.cell (p := ⟨h, 0, none⟩) lh).trans o0
              have k1 := (hb3.cell (p := ⟨h, 1, none⟩) lh).trans o1
              have k2 := (hb3.cell (p := ⟨h, 2, none⟩) lh).trans o2
              have k3 := (hb3.cell (p := ⟨B, k, none⟩) lB).trans o3
              have k4 := (hb3.cell (p := ⟨B, m, none⟩) lB).trans o4
              have k5 := (hb3.cell (p := ⟨q, si * 2, none⟩) lq).trans o5
              have k6 := (hb3.cell (p := ⟨q, si * 2 + 1, none⟩) lq).trans o6
              have k7 := (hb3.cell (p := ⟨pq, di * 2, none⟩) lp).trans o7
              have k8 := (hb3.cell (p := ⟨pq, di * 2 + 1, none⟩) lp).trans o8
              have HST3 := hidE (HSY.out.grow (W' := w3) (below_of_drew hb3))
              have lh : h < w3.heap.size := Nat.lt_of_lt_of_le lh (below_of_drew hb3).size
              have lB : B < w3.heap.size := Nat.lt_of_lt_of_le lB (below_of_drew hb3).size
              have lp : pq < w3.heap.size := Nat.lt_of_lt_of_le lp (below_of_drew hb3).size
              have lq : q < w3.heap.size := lt_of_block HST3.out.new
              clear hb3 o0 o1 o2 o3 o4 o5 o6 o7 o8
              refine hK.out _ _ (.inr ⟨k0, k1, k2, k3, k4, k5, k6, k7, k8⟩) ?_
              clear hK K
              try simp only [Act.put, List.setIfInBounds_toArray, List.set_cons_succ, List.set_cons_zero]
              refine wpAnyF_step 26 rfl (by kernel_rfl) (fun K hK => ?_)
              go_simp
              go_at_call 136
              refine (lesser_at _ _ _ _ _).mono ?_
              rintro e w4 ⟨rfl, hb4⟩
              go_wp2_with fail
              have n0 := (hb4.cell (p := ⟨h, 0, none⟩) lh).trans k0
              have n1 := (hb4.cell (p := ⟨h, 1, none⟩) lh).trans k1
              have n2 := (hb4.cell (p := ⟨h, 2, none⟩) lh).trans k2
              have n3 := (hb4.cell (p := ⟨B, k, none⟩) lB).trans k3
              have n4 := (hb4.cell (p := ⟨B, m, none⟩) lB).trans k4
              have n5 := (hb4.cell (p := ⟨q, si * 2, none⟩) lq).trans k5
              have n6 := (hb4.cell (p := ⟨q, si * 2 + 1, none⟩) lq).trans k6
              have n7 := (hb4.cell (p := ⟨pq, di * 2, none⟩) lp).trans k7
              have n8 := (hb4.cell (p := ⟨pq, di * 2 + 1, none⟩) lp).trans k8
              have HST4 := hidE (HST3.out.grow (W' := w4) hb4)
              have n9 : ∀ i, w4.frozen? ⟨q, i, none⟩ = false := fun i => frozen_of_row _ _ _ _ _ HST4.out.new
              clear hb4 k0 k1 k2 k3 k4 k5 k6 k7 k8
              refine hK.out _ _ (.inr ⟨n0, n1, n2, n3, n4, n5, n6, n7, n8⟩) ?_
              clear hK K
              try simp only [Act.put, List.setIfInBounds_toArray, List.set_cons_succ, List.set_cons_zero]
              refine wpAnyF_step 27 rfl (by kernel_rfl) (fun K hK => ?_)
              go_simp
              refine hK.out _ _ (.inr ⟨n0, n1, n2, n3, n4, n5, n6, n7, n8⟩) ?_
              clear hK K
              try simp only [Act.put, List.setIfInBounds_toArray, List.set_cons_succ, List.set_cons_zero]
              refine wpAnyF_step 28 rfl (by kernel_rfl) (fun K hK => ?_)
              go_simp
              refine hK.out _ _ (.inl rfl) ?_
              clear hK K
              refine wpAnyF_done (by kernel_rfl) ?_ _
              go_wp2_with fail
              go_roundw
              case rel => exact ⟨j + 1, by have := HI.out; omega, by rw [show s + (j + 1) = i + 1 by have := HI.out; omega]; go_num, hidE (by rw [HF4.out]; simp only [if_true]; exact HST4.out.set siR' _)⟩
              case measure => simp [intOf]; omega
          · have hall : (bs.drop s).take j = bs.drop s := List.take_of_length_le (by simp; omega)
            have HI := hidE hi
            rw [hall] at hst
            clear hall hi
            go_wp2_with fail
            go_roundw
            case rel =>
              refine ⟨k + 1, ads ++ [q], by omega, by go_num, hidE (by rw [List.length_append, hlen.out]; rfl), hidE (hst.out.close ?_)⟩
              rw [hlen.out, HKM.out]; exact HFS.out m
            case measure => simp [intOf]; omega
    · obtain rfl : k = M := by omega
      have hd := hst.out.done hlen.out
      have HD := hidE hd
      have HBL := hidE hst.out.bl
      have kn : ¬ (k : Int) ≤ (n : Int) := by have := HMN.out; omega
      clear hd hst
      go_wp2_with fail
      go_ret
      refine ⟨?_, HBL.out⟩
      rw [HMN.out]
      exact ⟨B, ads, rfl, hlen.out, HD.out⟩

end Go.Proofs.Ytejbpoclfjkllaa
