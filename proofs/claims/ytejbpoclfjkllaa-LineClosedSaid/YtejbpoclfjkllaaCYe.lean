/- Walk: the reference's Needless. Conditions: at most 40 points where the system is checked. -/
import Derived.Test.YtejbpoclfjkllaaCYd
import Derived.Test.YtejbpoclfjkllaaCYa
import Derived.Test.YtejbpoclfjkllaaP2
import Derived.Deep.DeepCutAuto
namespace Go.Proofs.Ytejbpoclfjkllaa
open Go Go.RowKit Go.Shelf

section
variable {P : Program} {ops : Array Oper} {Q : Exit → Act → World → Prop} {md : Region.Mode} {S S' : World → Prop} {last : Nat}
/-- Two operations may come up next. -/
theorem wpAnyF_two {fuel : Nat} {listed : Array Bool} {a : Act} {w : World} (i j : Nat) {oi oj : Oper} (hi : ops[i]? = some oi) (hj : ops[j]? = some oj) (hr : Region.ready md ops listed = [i, j])
    (h1 : ∀ K' : Act → World → Prop, Shut (∀ a w, (i = last ∨ S w) → wpAnyF P md ops Q S last fuel (listed.setIfInBounds i true) a w → K' a w) → if Region.wanted oi (yielded ops a.tmps) = true then Oper.wp P oi a w K' Q else K' (a.put oi.dst undef) w)
    (h2 : ∀ K' : Act → World → Prop, Shut (∀ a w, (j = last ∨ S w) → wpAnyF P md ops Q S last fuel (listed.setIfInBounds j true) a w → K' a w) → if Region.wanted oj (yielded ops a.tmps) = true then Oper.wp P oj a w K' Q else K' (a.put oj.dst undef) w) :
    wpAnyF P md ops Q S last (fuel + 1) listed a w :=
  ⟨fun h0 => (by rw [hr] at h0; cases h0), fun k hk => by
    rw [hr] at hk
    simp only [List.mem_cons, List.not_mem_nil, or_false] at hk
    rcases hk with rfl | rfl
    · exact wpOp_step hi fun K' hK => h1 K' fun a w q1 q2 => hK a w ⟨q1, q2⟩
    · exact wpOp_step hj fun K' hK => h2 K' fun a w q1 q2 => hK a w ⟨q1, q2⟩⟩
/-- A stronger condition serves. -/
theorem wpAnyF_S (hS : ∀ w, S' w → S w) : ∀ (fuel : Nat) (listed : Array Bool) (a : Act) (w : World), wpAnyF P md ops Q S' last fuel listed a w → wpAnyF P md ops Q S last fuel listed a w
  | 0, _, _, _, h => h
  | fuel + 1, _, _, _, h => ⟨h.1, fun i hi => wpOp_mono (fun a' w' h' => ⟨h'.1.imp id (hS w'), wpAnyF_S hS fuel _ a' w' h'.2⟩) (h.2 i hi)⟩
end

/-- Part of an owned list of bounds, as it lies. -/
theorem bounds_part {W : World} {base g n cap : Nat} {l : List Bd} (h : W.ownsRow base 44 4 (.slice (some ⟨g, 0, none⟩) n cap) l.length (flat l)) {i : Nat} (r : List Bd) (hr : ∀ q (hq : q < r.length), ∃ h : i + q < l.length, l[i + q] = r[q]) : BoundsAt W (some ⟨g, i * 4, none⟩) r := by
  rcases h.2 with ⟨e, _⟩ | ⟨gb, cp, cur, e, _, hh, hn, _, hsz, htk⟩
  · cases e
  · cases e
    refine .inr ⟨g, i * 4, rfl, lt_of_block hh, fun q hq => ?_⟩
    obtain ⟨hl, e2⟩ := hr q hq
    have key : ∀ j v, j < 4 → (r[q]).cells[j]? = some v → W.cell? ⟨g, i * 4 + q * 4 + j, none⟩ = some v := by
      intro j v hj hv
      rw [cell_of_row _ _ _ _ _ _ hh, show i * 4 + q * 4 + j = (i + q) * 4 + j by omega]
      have h3 := flat_get l (i + q) hl j hj
      rw [← htk, List.getElem?_take_of_lt (by omega), e2, hv] at h3
      simpa using h3
    exact ⟨key 0 _ (by omega) rfl, key 1 _ (by omega) rfl, key 2 _ (by omega) rfl, key 3 _ (by omega) rfl⟩
theorem bounds_part0 {W : World} {base g n cap : Nat} {l : List Bd} (h : W.ownsRow base 44 4 (.slice (some ⟨g, 0, none⟩) n cap) l.length (flat l)) (i : Nat) (hi : i ≤ l.length) : BoundsAt W (some ⟨g, 0, none⟩) (l.take i) := by
  have := bounds_part h (i := 0) (l.take i) (fun q hq => by
    have hq' : q < i := by simp at hq; omega
    exact ⟨by omega, by simp⟩)
  rwa [Nat.zero_mul] at this
theorem owns_some_bounds {W : World} {base : Nat} {v : Value} {l : List Bd} (h : W.ownsRow base 44 4 v l.length (flat l)) (h0 : l.length ≠ 0) : ∃ g cap, v = .slice (some ⟨g, 0, none⟩) l.length cap ∧ l.length ≤ cap ∧ g < W.heap.size := by
  rcases h.2 with ⟨_, e⟩ | ⟨gb, cp, cur, e, _, hh, hn, _⟩
  · exact absurd e h0
  · exact ⟨gb, cp, e, hn, lt_of_block hh⟩
theorem ownsRow_kept {W W' : World} {base : Nat} {e : TypeId} {size : Nat} {v : Value} {n : Nat} {xs : List Value} (h : W.ownsRow base e size v n xs) (hb : Below W.heap.size W W') : W'.ownsRow base e size v n xs :=
  ownsRow_of_block h (fun q hq => hb.block q (owns_lt' h hq))
theorem noNeg_part {bs cs : List Bd} (h : NoNeg bs) (hs : ∀ x ∈ cs, x ∈ bs) : NoNeg cs := fun a l hw ho => h a l hw (fun x hx => hs x (ho x hx))

/-- What stands between two rounds of the reference's Needless. -/
structure NeSt (w W : World) (R : Nat) (a : Option Addr) (len cap : Nat) (v5 v6 : Value) (stay : List Bd) (out : List Int) : Prop where
  box : W.heap[w.heap.size]? = some (.cells #[.int .i64 (R : Int), .slice a len cap] 24 (0,0))
  st : W.ownsRow w.heap.size 44 4 v5 stay.length (flat stay)
  ou : W.ownsRow w.heap.size 3 1 v6 out.length (intsV out)
  bl : Below w.heap.size w W
theorem NeSt.grow {w W W' : World} {R : Nat} {a : Option Addr} {len cap : Nat} {v5 v6 : Value} {stay : List Bd} {out : List Int} (h : NeSt w W R a len cap v5 v6 stay out) (hb : Below W.heap.size W W') : NeSt w W' R a len cap v5 v6 stay out :=
  ⟨blk_below hb (lt_of_block h.box) h.box, ownsRow_kept h.st hb, ownsRow_kept h.ou hb, h.bl.trans (hb.mono h.bl.size)⟩

theorem needless_len (N : Int) (bs : List Bd) : (needlessE N bs).1.length ≤ bs.length := by
  unfold needlessE
  split
  · have h1 := needGo_len N.toNat (heightsP N bs) bs bs.length (List.replicate bs.length false) []
    show (needlessP N.toNat (heightsP N bs) bs).length ≤ _
    unfold needlessP
    rw [List.length_reverse]
    simpa using h1
  · simp

set_option maxRecDepth 100000 in
set_option maxHeartbeats 4000000 in
theorem refneedless_any (w : World) (N : Int) (a : Option Addr) (cap : Nat) (bs : List Bd) (hN : i64ok N) (hl : bs.length ≤ 9223372036854775807) (h : BoundsAt w a bs) (hsm : checkP N bs = 0 → N ≤ 40) :
    Calls Try.prog 36 #[.agg #[.int .i64 N, .slice a bs.length cap]] w fun e w' => PathPost (needlessE N bs).1 (needlessE N bs).2 w.heap.size e w' ∧ Below w.heap.size w w' := by
  have b0 : Below w.heap.size w (w.alloc (.cells #[.int .i64 N, .slice a bs.length cap] 24)) := (Below.refl _ _).alloc (Nat.le_refl _) _
  have hask : Calls Try.prog 90 #[.agg #[.int .i64 N, .slice a bs.length cap], .slice none 0 0] (w.alloc (.cells #[.int .i64 N, .slice a bs.length cap] 24)) _ :=
    pointed_any _ N a cap bs none 0 [] hN hl (by simp) (h.below b0 (Nat.le_refl _)) (.inl rfl)
  have B0 := hidE b0
  have H := hidE h
  clear b0 h
  by_cases he : askedE N bs [] = 0
  · have h40 := hsm (askedE_zero he).1
    obtain ⟨R, t, rfl, ht, HO⟩ := asked0 he
    have h40' : R ≤ 40 := by omega
    have hE : needlessE R bs = (needR R bs.length bs [], 0) := by
      unfold needlessE; rw [if_pos he, heightsP_of ht, needless_ref HO, Int.toNat_natCast]
    rw [he] at hask
    have hlen := HO.len
    have hlen2 : bs.length ≤ 4000 := by omega
    obtain ⟨L, hL⟩ : ∃ L, needR R bs.length bs [] = L := ⟨_, rfl⟩
    rw [hL] at hE
    have r0 := HO.n0
    have HV := hidE HO.valid
    have HNN := hidE HO.noNeg
    have HE := hidE hE
    have HL := hidE hL
    have HA := hidE hask
    clear hE hL hask he ht HO hN hsm hlen
    go_enter Try.func36, Try.ntmps36
    go_wp2_with fail
    refine HA.out.mono ?_
    rintro e w1 ⟨rfl, hb1⟩
    have x1 := blk_below hb1 (by simp) (heap_alloc_new w (.cells #[.int .i64 (R : Int), .slice a bs.length cap] 24))
    have e0 : w1.cell? ⟨w.heap.size, 0, none⟩ = some (.int .i64 (R : Int)) := by rw [cell_of_row _ _ _ _ _ _ x1]; rfl
    have e1 : w1.cell? ⟨w.heap.size, 1, none⟩ = some (.slice a bs.length cap) := by rw [cell_of_row _ _ _ _ _ _ x1]; rfl
    have B1 := hidE (B0.out.trans (hb1.mono B0.out.size))
    have X1 := hidE x1
    have l1 : w.heap.size < w1.heap.size := lt_of_block x1
    clear x1 hb1
    have hba := H.out.below B1.out (Nat.le_refl _)
    obtain ⟨v5, W5, hr5, ho5, hb5⟩ := append_bounds (w1.alloc (.cells #[] 44)) w1.heap.size (.slice (some ⟨w1.heap.size, 0, none⟩) 0 0) [] (owns_empty (heap_alloc_new w1 _) (Nat.le_refl _)) a cap bs (hba.alloc _) (by simp) (by omega) (by simp) 22
    have b15 : Below w1.heap.size w1 W5 := ((Below.refl _ _).alloc (Nat.le_refl _) _).trans hb5
    have hst5 : NeSt w W5 R a bs.length cap v5 (.slice none 0 0) bs [] := ⟨blk_below b15 l1 X1.out, ownsRow_base (by simpa using ho5) (by omega), World.ownsRow_nil _ _ _ _, B1.out.trans (b15.mono B1.out.size)⟩
    obtain ⟨o5, c5, hv5, _⟩ := boundsAt_of_out (l := bs) (by simpa [BoundsOut] using ho5)
    subst hv5
    have hsub0 : (bs.length : Int) - 1 = (bs.length : Int) - 1 := rfl
    have hw0 : IntKind.i64.wrap ((bs.length : Int) - 1) = (bs.length : Int) - 1 := IntWalk.i64_in _ (by omega)
    have HR5 := hidE hr5
    have ST5 := hidE hst5
    clear hr5 ho5 hb5 b15 hst5 hba hsub0
    go_wp2_with (at_builtin; refine wpList_op_append rfl (s := .tmp 16) (x := .tmp 18) (t := 22) rfl rfl rfl HR5.out ?_)
    clear e0 e1
    go_loopw [5, 6, 7] (fun s5 s6 s7 wr => ∃ (j : Nat) (z : Int) (stay : List Bd) (out : List Int), s7 = .int .i64 z ∧ z = (j : Int) - 1 ∧ j ≤ stay.length ∧ stay.length ≤ bs.length ∧ out.length + j ≤ bs.length ∧ Hid (NeSt w wr R a bs.length cap s5 s6 stay out) ∧ Hid (∀ x ∈ stay, x ∈ bs) ∧ Hid (needR R j stay out = L)) (fun _ _ s7 _ => (intOf s7 + 1).toNat)
    case atStart => exact ⟨bs.length, _, bs, [], rfl, rfl, Nat.le_refl _, Nat.le_refl _, by simp, ST5, hidE (fun _ h => h), HL⟩
    case round =>
      obtain ⟨j, z, stay, out, rfl, hz, hjs, hsl, hol, hst, hsub, hneed⟩ := hrel
      rcases Nat.eq_zero_or_pos j with hj0 | hjp
      · subst hj0
        obtain rfl : z = -1 := by omega
        have hd0 : decide ((-1 : Int) ≥ 0) = false := by decide
        clear hz
        have hou := hst.out.ou
        have hbl := hst.out.bl
        have hn := hneed.out
        unfold needR at hn
        subst hn
        have HOU := hidE hou
        have HBL := hidE hbl
        clear hou hbl hst hneed hsub
        go_wp2_with fail
        refine bodyPost_ret (v := .tuple #[u6, .int .i64 0]) (by simp [results, Try.results36, go_sem]) rfl ⟨?_, HBL.out⟩
        rw [HE.out]; exact ⟨_, rfl, HOU.out⟩
      · obtain ⟨i, rfl⟩ : ∃ i, j = i + 1 := ⟨j - 1, by omega⟩
        obtain rfl : z = (i : Int) := by omega
        clear hz
        have his : i < stay.length := by omega
        obtain ⟨g, cp, rfl, hcp, hgw⟩ := owns_some_bounds hst.out.st (by omega)
        have hgi : ∀ x, stay.getD i bd0 = x → stay[i] = x := fun x e => by rw [← e, List.getD_eq_getElem?_getD, List.getElem?_eq_getElem his]; rfl
        obtain ⟨x, hx⟩ : ∃ x, stay.getD i bd0 = x := ⟨_, rfl⟩
        have hxe := hgi x hx
        have hxm : x ∈ bs := hsub.out x (by rw [← hxe]; exact List.getElem_mem _)
        have hval := HV.out x hxm
        have hcs : BoundsAt wr (some ⟨g, 0, none⟩) stay := by
          have := bounds_part0 hst.out.st stay.length (Nat.le_refl _)
          rwa [List.take_length] at this
        obtain ⟨b', off', e', _, hcc⟩ := hcs.at his
        cases e'
        rw [hxe] at hcc
        obtain ⟨c0, c1, c2, c3⟩ := hcc
        rw [Nat.zero_add] at c0 c1 c2 c3
        obtain ⟨xs, xd, xm, xr⟩ := x
        obtain ⟨u1, u2, u3, u4, u5, u6⟩ := hval
        simp only at c0 c1 c2 c3 u1 u2 u3 u4 u5 u6
        obtain ⟨si, rfl⟩ := Int.eq_ofNat_of_zero_le u1
        obtain ⟨di, rfl⟩ := Int.eq_ofNat_of_zero_le u3
        have iS : (i : Int) < (stay.length : Int) := by omega
        have HX := hidE hx
        clear hgi hx hxe hxm hcs
        obtain ⟨wq, rfl⟩ : ∃ y : World, y = wr := ⟨wr, rfl⟩
        go_upto_region 10 with fail
        obtain ⟨W2, hW2⟩ : ∃ W2, W2 = wq.alloc (Obj.cells #[.int .i64 (si : Int), .int .i64 (di : Int), .int .i64 xm, .int .i64 xr] 44) := ⟨_, rfl⟩
        rw [← hW2]
        have hb2 : Below wq.heap.size wq W2 := by rw [hW2]; exact (Below.refl _ _).alloc (Nat.le_refl _) _
        have hx2 : W2.heap[wq.heap.size]? = some (.cells #[.int .i64 (si : Int), .int .i64 (di : Int), .int .i64 xm, .int .i64 xr] 44 (0,0)) := by rw [hW2]; exact heap_alloc_new _ _
        have hst2 := hst.out.grow hb2
        clear hW2 c0 c1 c2 c3 hst
        obtain ⟨i1, hi1⟩ : ∃ i1 : Nat, i1 = i + 1 := ⟨_, rfl⟩
        have hwi : IntKind.i64.wrap ((i : Int) + 1) = (i1 : Int) := by rw [IntWalk.i64_in _ (by omega)]; omega
        obtain ⟨rest, hrest⟩ : ∃ r, stay.take i ++ stay.drop (i + 1) = r := ⟨_, rfl⟩
        have hrl : rest.length + 1 = stay.length := by rw [← hrest]; simp; omega
        have hrsub : ∀ y ∈ rest, y ∈ bs := fun y hy => by
          rw [← hrest] at hy
          rcases List.mem_append.1 hy with e | e
          · exact hsub.out y (List.mem_of_mem_take e)
          · exact hsub.out y (List.mem_of_mem_drop e)
        have b2a : Below W2.heap.size W2 (W2.drew.alloc (.cells #[] 44)) := (Below.refl _ _).drew.alloc (Nat.le_refl _) _
        obtain ⟨v1, W3, hr1, ho1, hb3⟩ := append_bounds (W2.drew.alloc (.cells #[] 44)) W2.heap.size (.slice (some ⟨W2.heap.size, 0, none⟩) 0 0) [] (owns_empty (heap_alloc_new W2.drew _) (Nat.le_refl _)) (some ⟨g, 0, none⟩) cp (stay.take i) ((bounds_part0 hst2.st i (by omega)).below b2a (Nat.le_refl _)) (by simp) (by simp; omega) (by simp) 22
        have b23 : Below W2.heap.size W2 W3 := b2a.trans hb3
        have a3 : BoundsAt W3 (if cp = i1 then some ⟨g, 0, none⟩ else some ⟨g, i1 * 4, none⟩) (stay.drop i1) := by
          by_cases e : cp = i1
          · exact .inl (List.drop_eq_nil_of_le (by omega))
          · rw [if_neg e]
            exact (bounds_part hst2.st (i := i1) (stay.drop i1) (fun q hq => by
              have hq' : q < stay.length - i1 := by simpa using hq
              exact ⟨by omega, by simp⟩)).below b23 (Nat.le_refl _)
        obtain ⟨v9, W4, hr2, ho2, hb4⟩ := append_bounds W3 W2.heap.size v1 ([] ++ stay.take i) ho1 (if cp = i1 then some ⟨g, 0, none⟩ else some ⟨g, i1 * 4, none⟩) (cp - i1) (stay.drop i1) a3 (by simp; omega) (by simp; omega) b23.size 22
        have b24 : Below W2.heap.size W2 W4 := b23.trans hb4
        rw [List.length_take, Nat.min_eq_left (by omega)] at hr1
        rw [List.length_drop] at hr2
        rw [List.nil_append, hi1, hrest] at ho2
        obtain ⟨o9, c9, hv9, hba9, _⟩ := boundsAt_of_out (l := rest) (by simpa [BoundsOut] using ho2)
        subst hv9
        have hst4 := hst2.grow b24
        have hx4 := blk_below b24 (lt_of_block hx2) hx2
        have j1 : (0 : Int) ≤ (i : Int) := by omega
        have j2 : (i : Int) ≤ (stay.length : Int) := by omega
        have j3 : (i : Int) ≤ (cp : Int) := by omega
        have j4 : i ≤ cp := by omega
        have j5 : (stay.length : Int) ≤ (cp : Int) := by omega
        have j6 : (0 : Int) ≤ (i1 : Int) := by omega
        have j7 : (i1 : Int) ≤ (stay.length : Int) := by omega
        have j8 : i1 ≤ cp := by omega
        have j9 : i1 ≤ stay.length := by omega
        have HR1 := hidE hr1
        have HR2 := hidE hr2
        have ST4 := hidE hst4
        have HX4 := hidE hx4
        have HO9 := hidE (ownsRow_base ho2 (Nat.le_trans hst2.bl.size (Nat.le_refl _)))
        have HB9 := hidE hba9
        have HRS := hidE hrsub
        have HRE := hidE hrest
        have HI1 := hidE hi1
        clear hr1 hr2 ho1 ho2 hb3 hb4 b2a b23 b24 hst2 hst4 hx2 hx4 hba9 hrsub hrest hb2 hi1 hgw
        go_region_held3 (fun _ => True) (trivial) (first | (refine step_op_append rfl (s := .tmp 31) (x := .tmp 34) (t := 22) rfl rfl rfl HR1.out ?_) | (refine step_op_append rfl (s := .tmp 35) (x := .tmp 39) (t := 22) rfl rfl rfl HR2.out ?_))
        obtain ⟨A39, hA39⟩ : ∃ A : Option Addr, (if cp = i1 then (some ⟨g, 0, none⟩ : Option Addr) else some ⟨g, i1 * 4, none⟩) = A := ⟨_, rfl⟩
        rw [hA39]
        clear hA39
        go_upto_region 11 with fail
        have d0 : W4.cell? ⟨w.heap.size, 0, none⟩ = some (.int .i64 (R : Int)) := by rw [cell_of_row _ _ _ _ _ _ ST4.out.box]; rfl
        have d1 : W4.cell? ⟨wq.heap.size, 0, none⟩ = some (.int .i64 (si : Int)) := by rw [cell_of_row _ _ _ _ _ _ HX4.out]; rfl
        have d2 : W4.cell? ⟨wq.heap.size, 1, none⟩ = some (.int .i64 (di : Int)) := by rw [cell_of_row _ _ _ _ _ _ HX4.out]; rfl
        have l4 : w.heap.size < W4.heap.size := lt_of_block ST4.out.box
        have l5 : wq.heap.size < W4.heap.size := lt_of_block HX4.out
        have hdim : Dim R (matrixP R rest) := (pivS_ok (fun y hy => HV.out y (HRS.out y hy)) (noNeg_part HNN.out HRS.out) (Nat.le_refl R)).1
        have hmat : ∀ X, BoundsAt X o9 rest → Calls Try.prog 92 #[.agg #[.int .i64 (R : Int), .slice o9 rest.length c9]] X _ := fun X hX => matrix_any X R o9 c9 rest r0 h40' (by omega) hX (fun y hy => HV.out y (HRS.out y hy)) (noNeg_part HNN.out HRS.out)
        obtain ⟨d, hdd⟩ : ∃ d, matrixP R rest = d := ⟨_, rfl⟩
        rw [hdd] at hmat hdim
        obtain ⟨⟨ms, mo⟩, hmm⟩ : ∃ m, mget d si di = m := ⟨_, rfl⟩
        have iR : si < R := by omega
        have jR : di < R := by omega
        have iI : (si : Int) < (R : Int) := u2
        have jI : (di : Int) < (R : Int) := u4
        have HM := hidE hmat
        have HDIM := hidE hdim
        have HMM := hidE hmm
        have HDD := hidE hdd
        clear hmat hdim hmm hdd
        go_cut [10] (fun s10 wx => ∃ b10 : Nat, s10 = .pointer (some ⟨b10, 0, none⟩) ∧ Hid (wx.heap[b10]? = some (.cells #[.int .i64 ms, .bool mo] 98 (0,0))) ∧ Hid (Below W4.heap.size W4 wx))
        case first =>
          have mfacts : ∀ (Bk : Nat) (w3 : World), MatAt w3 Bk R d → w3.cell? ⟨Bk, si, none⟩ = some (.slice (some ⟨Bk + 1 + si, 0, none⟩) R R) ∧ w3.cell? ⟨Bk + 1 + si, di * 2, none⟩ = some (.int .i64 ms) ∧ w3.cell? ⟨Bk + 1 + si, di * 2 + 1, none⟩ = some (.bool mo) ∧ Bk < w3.heap.size ∧ Bk + 1 + si < w3.heap.size := by
            intro Bk w3 hm
            obtain ⟨q1, q2, _⟩ := hm.cells HDIM.out iR jR
            rw [HMM.out] at q1 q2
            exact ⟨hm.slot iR, q1, q2, lt_of_block hm.out, lt_of_block (hm.row si iR)⟩
          have MF := hidE mfacts
          clear mfacts
          refine wp_region_F (S := fun V => V.cell? ⟨w.heap.size, 0, none⟩ = some (.int .i64 (R : Int)) ∧ V.cell? ⟨wq.heap.size, 0, none⟩ = some (.int .i64 (si : Int)) ∧ V.cell? ⟨wq.heap.size, 1, none⟩ = some (.int .i64 (di : Int))) (last := 14) (by kernel_rfl) ?_
          have hS0 : W4.drew.cell? ⟨w.heap.size, 0, none⟩ = some (.int .i64 (R : Int)) ∧ W4.drew.cell? ⟨wq.heap.size, 0, none⟩ = some (.int .i64 (si : Int)) ∧ W4.drew.cell? ⟨wq.heap.size, 1, none⟩ = some (.int .i64 (di : Int)) := ⟨d0, d1, d2⟩
          refine wpAnyF_take (i := 0) (v := (.pointer (some ⟨w.heap.size, 0, none⟩))) (by kernel_rfl) (by decide) rfl (by kernel_rfl) (by kernel_rfl) (by kernel_rfl) (fun _ _ _ h => h) (.inl ⟨rfl, fun V hV => ?_⟩) hS0 ?_
          · obtain ⟨z0, z1, z2⟩ := hV
            simp [go_sem, execOp]
          simp only [Act.put, List.setIfInBounds_toArray]
          refine wpAnyF_take (i := 1) (v := (.int .i64 (R : Int))) (by kernel_rfl) (by decide) rfl (by kernel_rfl) (by kernel_rfl) (by kernel_rfl) (fun _ _ _ h => h) (.inl ⟨rfl, fun V hV => ?_⟩) hS0 ?_
          · obtain ⟨z0, z1, z2⟩ := hV
            simp [go_sem, execOp, z0]
          simp only [Act.put]
          refine wpAnyF_take (i := 2) (v := (.slice o9 rest.length c9)) (by kernel_rfl) (by decide) rfl (by kernel_rfl) (by kernel_rfl) (by kernel_rfl) (fun _ _ _ h => h) (.inl ⟨rfl, fun V hV => ?_⟩) hS0 ?_
          · obtain ⟨z0, z1, z2⟩ := hV
            simp [go_sem, execOp]
          simp only [Act.put]
          refine wpAnyF_take (i := 3) (v := (.agg #[.int .i64 (R : Int), .slice o9 rest.length c9])) (by kernel_rfl) (by decide) rfl (by kernel_rfl) (by kernel_rfl) (by kernel_rfl) (fun _ _ _ h => h) (.inl ⟨rfl, fun V hV => ?_⟩) hS0 ?_
          · obtain ⟨z0, z1, z2⟩ := hV
            simp [go_sem, execOp]
          simp only [Act.put]
          refine wpAnyF_take (i := 5) (v := (.pointer (some ⟨wq.heap.size, 0, none⟩))) (by kernel_rfl) (by decide) rfl (by kernel_rfl) (by kernel_rfl) (by kernel_rfl) (fun _ _ _ h => h) (.inl ⟨rfl, fun V hV => ?_⟩) hS0 ?_
          · obtain ⟨z0, z1, z2⟩ := hV
            simp [go_sem, execOp]
          simp only [Act.put]
          refine wpAnyF_take (i := 6) (v := (.int .i64 (si : Int))) (by kernel_rfl) (by decide) rfl (by kernel_rfl) (by kernel_rfl) (by kernel_rfl) (fun _ _ _ h => h) (.inl ⟨rfl, fun V hV => ?_⟩) hS0 ?_
          · obtain ⟨z0, z1, z2⟩ := hV
            simp [go_sem, execOp, z1]
          simp only [Act.put]
          refine wpAnyF_take (i := 9) (v := (.pointer (some ⟨wq.heap.size, 1, none⟩))) (by kernel_rfl) (by decide) rfl (by kernel_rfl) (by kernel_rfl) (by kernel_rfl) (fun _ _ _ h => h) (.inl ⟨rfl, fun V hV => ?_⟩) hS0 ?_
          · obtain ⟨z0, z1, z2⟩ := hV
            simp [go_sem, execOp]
          simp only [Act.put]
          refine wpAnyF_take (i := 10) (v := (.int .i64 (di : Int))) (by kernel_rfl) (by decide) rfl (by kernel_rfl) (by kernel_rfl) (by kernel_rfl) (fun _ _ _ h => h) (.inl ⟨rfl, fun V hV => ?_⟩) hS0 ?_
          · obtain ⟨z0, z1, z2⟩ := hV
            simp [go_sem, execOp, z2]
          simp only [Act.put]
          refine wpAnyF_two 4 13 rfl rfl (by kernel_rfl) (fun K hK => ?_) (fun K hK => ?_)
          · skip
            go_simp
            go_at_call 92
            refine (HM.out _ (HB9.out.below ((Below.refl W4.heap.size W4).drew) (Nat.le_refl _))).mono ?_
            rintro e w3 ⟨rfl, hm, hb⟩
            go_wp2_with fail
            have hbw : Below W4.heap.size W4 w3 := ((Below.refl W4.heap.size W4).drew).trans (hb.mono (by simp))
            have k0 := (hbw.cell (p := ⟨w.heap.size, 0, none⟩) l4).trans d0
            have k1 := (hbw.cell (p := ⟨wq.heap.size, 0, none⟩) l5).trans d1
            have k2 := (hbw.cell (p := ⟨wq.heap.size, 1, none⟩) l5).trans d2
            have l4' : w.heap.size < w3.heap.size := Nat.lt_of_lt_of_le l4 hbw.size
            have l5' : wq.heap.size < w3.heap.size := Nat.lt_of_lt_of_le l5 hbw.size
            have hm2 : MatAt w3 (W4.heap.size + 1) R d := by simpa using hm
            obtain ⟨m0, m1, m2, m3, m4⟩ := MF.out _ _ hm2
            have HBW := hidE hbw
            clear hm hm2 hb hbw
            refine hK.out _ _ (.inr ⟨k0, k1, k2⟩) ?_
            clear hK K
            try simp only [Act.put, List.setIfInBounds_toArray, List.set_cons_succ, List.set_cons_zero]
            refine wpAnyF_S (S' := fun V => V.cell? ⟨w.heap.size, 0, none⟩ = some (.int .i64 (R : Int)) ∧ V.cell? ⟨wq.heap.size, 0, none⟩ = some (.int .i64 (si : Int)) ∧ V.cell? ⟨wq.heap.size, 1, none⟩ = some (.int .i64 (di : Int)) ∧ V.cell? ⟨W4.heap.size + 1, si, none⟩ = some (.slice (some ⟨W4.heap.size + 1 + 1 + si, 0, none⟩) R R) ∧ V.cell? ⟨W4.heap.size + 1 + 1 + si, di * 2, none⟩ = some (.int .i64 ms) ∧ V.cell? ⟨W4.heap.size + 1 + 1 + si, di * 2 + 1, none⟩ = some (.bool mo)) (fun V h => ⟨h.1, h.2.1, h.2.2.1⟩) _ _ _ _ ?_
            have hS1 : w3.cell? ⟨w.heap.size, 0, none⟩ = some (.int .i64 (R : Int)) ∧ w3.cell? ⟨wq.heap.size, 0, none⟩ = some (.int .i64 (si : Int)) ∧ w3.cell? ⟨wq.heap.size, 1, none⟩ = some (.int .i64 (di : Int)) ∧ w3.cell? ⟨W4.heap.size + 1, si, none⟩ = some (.slice (some ⟨W4.heap.size + 1 + 1 + si, 0, none⟩) R R) ∧ w3.cell? ⟨W4.heap.size + 1 + 1 + si, di * 2, none⟩ = some (.int .i64 ms) ∧ w3.cell? ⟨W4.heap.size + 1 + 1 + si, di * 2 + 1, none⟩ = some (.bool mo) := ⟨k0, k1, k2, m0, m1, m2⟩
            refine wpAnyF_take (i := 7) (v := (.pointer (some ⟨W4.heap.size + 1, si, none⟩))) (by kernel_rfl) (by decide) rfl (by kernel_rfl) (by kernel_rfl) (by kernel_rfl) (fun _ _ _ h => h) (.inl ⟨rfl, fun V hV => ?_⟩) hS1 ?_
            · obtain ⟨z0, z1, z2, z3, z4, z5⟩ := hV
              simp [go_sem, execOp, iI]
            simp only [Act.put, List.setIfInBounds_toArray]
            refine wpAnyF_take (i := 8) (v := (.slice (some ⟨W4.heap.size + 1 + 1 + si, 0, none⟩) R R)) (by kernel_rfl) (by decide) rfl (by kernel_rfl) (by kernel_rfl) (by kernel_rfl) (fun _ _ _ h => h) (.inl ⟨rfl, fun V hV => ?_⟩) hS1 ?_
            · obtain ⟨z0, z1, z2, z3, z4, z5⟩ := hV
              simp [go_sem, execOp, z3]
            simp only [Act.put]
            refine wpAnyF_take (i := 11) (v := (.pointer (some ⟨W4.heap.size + 1 + 1 + si, di * 2, none⟩))) (by kernel_rfl) (by decide) rfl (by kernel_rfl) (by kernel_rfl) (by kernel_rfl) (fun _ _ _ h => h) (.inl ⟨rfl, fun V hV => ?_⟩) hS1 ?_
            · obtain ⟨z0, z1, z2, z3, z4, z5⟩ := hV
              simp [go_sem, execOp, jI]
            simp only [Act.put]
            refine wpAnyF_take (i := 12) (v := (.agg #[.int .i64 ms, .bool mo])) (by kernel_rfl) (by decide) rfl (by kernel_rfl) (by kernel_rfl) (by kernel_rfl) (fun _ _ _ h => h) (.inl ⟨rfl, fun V hV => ?_⟩) hS1 ?_
            · obtain ⟨z0, z1, z2, z3, z4, z5⟩ := hV
              simp [go_sem, execOp, z4, z5]
            simp only [Act.put]
            refine wpAnyF_step 13 rfl (by kernel_rfl) (fun K hK => ?_)
            go_simp
            have bx : Below w3.heap.size w3 (w3.alloc (.cells #[.int .i64 0, .bool false] 98)) := (Below.refl _ _).alloc (Nat.le_refl _) _
            refine hK.out _ _ (.inr ⟨(bx.cell (p := ⟨w.heap.size, 0, none⟩) l4').trans k0, (bx.cell (p := ⟨wq.heap.size, 0, none⟩) l5').trans k1, (bx.cell (p := ⟨wq.heap.size, 1, none⟩) l5').trans k2, (bx.cell (p := ⟨W4.heap.size + 1, si, none⟩) m3).trans m0, (bx.cell (p := ⟨W4.heap.size + 1 + 1 + si, di * 2, none⟩) m4).trans m1, (bx.cell (p := ⟨W4.heap.size + 1 + 1 + si, di * 2 + 1, none⟩) m4).trans m2⟩) ?_
            clear hK K bx
            try simp only [Act.put, List.setIfInBounds_toArray, List.set_cons_succ, List.set_cons_zero]
            refine wpAnyF_step 14 rfl (by kernel_rfl) (fun K hK => ?_)
            go_simp
            refine hK.out _ _ (.inl rfl) ?_
            clear hK K
            refine wpAnyF_done (by kernel_rfl) ?_ _
            go_wp2_with fail
            go_meet
            exact ⟨_, rfl, hidE (heap_alloc_new _ _), hidE (HBW.out.alloc HBW.out.size _)⟩
          · go_simp
            have bx : Below W4.heap.size W4 (W4.alloc (.cells #[.int .i64 0, .bool false] 98)).drew := ((Below.refl _ _).alloc (Nat.le_refl _) _).drew
            refine hK.out _ _ (.inr ⟨(bx.cell (p := ⟨w.heap.size, 0, none⟩) l4).trans d0, (bx.cell (p := ⟨wq.heap.size, 0, none⟩) l5).trans d1, (bx.cell (p := ⟨wq.heap.size, 1, none⟩) l5).trans d2⟩) ?_
            clear hK K bx
            try simp only [Act.put, List.setIfInBounds_toArray, List.set_cons_succ, List.set_cons_zero]
            refine wpAnyF_step 4 rfl (by kernel_rfl) (fun K hK => ?_)
            go_simp
            go_at_call 92
            refine (HM.out _ (HB9.out.below (((Below.refl W4.heap.size W4).alloc (Nat.le_refl _) (.cells #[.int .i64 0, .bool false] 98)).drew) (Nat.le_refl _))).mono ?_
            rintro e w3 ⟨rfl, hm, hb⟩
            go_wp2_with fail
            have hbw : Below W4.heap.size W4 w3 := (((Below.refl W4.heap.size W4).alloc (Nat.le_refl _) (.cells #[.int .i64 0, .bool false] 98)).drew).trans (hb.mono (by simp))
            have k0 := (hbw.cell (p := ⟨w.heap.size, 0, none⟩) l4).trans d0
            have k1 := (hbw.cell (p := ⟨wq.heap.size, 0, none⟩) l5).trans d1
            have k2 := (hbw.cell (p := ⟨wq.heap.size, 1, none⟩) l5).trans d2
            have l4' : w.heap.size < w3.heap.size := Nat.lt_of_lt_of_le l4 hbw.size
            have l5' : wq.heap.size < w3.heap.size := Nat.lt_of_lt_of_le l5 hbw.size
            have hm2 : MatAt w3 (W4.heap.size + 1 + 1) R d := by simpa using hm
            obtain ⟨m0, m1, m2, m3, m4⟩ := MF.out _ _ hm2
            have HBW := hidE hbw
            have hz : w3.heap[W4.heap.size]? = some (.cells #[.int .i64 0, .bool false] 98 (0,0)) := blk_below hb (by simp) (heap_alloc_new W4 _)
            have z0 : w3.cell? ⟨W4.heap.size, 0, none⟩ = some (.int .i64 0) := by rw [cell_of_row _ _ _ _ _ _ hz]; rfl
            have z1 : w3.cell? ⟨W4.heap.size, 1, none⟩ = some (.bool false) := by rw [cell_of_row _ _ _ _ _ _ hz]; rfl
            have zf : ∀ i, w3.frozen? ⟨W4.heap.size, i, none⟩ = false := fun i => frozen_of_row _ _ _ _ _ hz
            have HZ := hidE hz
            clear hm hm2 hb hbw hz
            refine hK.out _ _ (.inr ⟨k0, k1, k2⟩) ?_
            clear hK K
            try simp only [Act.put, List.setIfInBounds_toArray, List.set_cons_succ, List.set_cons_zero]
            refine wpAnyF_S (S' := fun V => V.cell? ⟨w.heap.size, 0, none⟩ = some (.int .i64 (R : Int)) ∧ V.cell? ⟨wq.heap.size, 0, none⟩ = some (.int .i64 (si : Int)) ∧ V.cell? ⟨wq.heap.size, 1, none⟩ = some (.int .i64 (di : Int)) ∧ V.cell? ⟨W4.heap.size + 1 + 1, si, none⟩ = some (.slice (some ⟨W4.heap.size + 1 + 1 + 1 + si, 0, none⟩) R R) ∧ V.cell? ⟨W4.heap.size + 1 + 1 + 1 + si, di * 2, none⟩ = some (.int .i64 ms) ∧ V.cell? ⟨W4.heap.size + 1 + 1 + 1 + si, di * 2 + 1, none⟩ = some (.bool mo)) (fun V h => ⟨h.1, h.2.1, h.2.2.1⟩) _ _ _ _ ?_
            have hS1 : w3.cell? ⟨w.heap.size, 0, none⟩ = some (.int .i64 (R : Int)) ∧ w3.cell? ⟨wq.heap.size, 0, none⟩ = some (.int .i64 (si : Int)) ∧ w3.cell? ⟨wq.heap.size, 1, none⟩ = some (.int .i64 (di : Int)) ∧ w3.cell? ⟨W4.heap.size + 1 + 1, si, none⟩ = some (.slice (some ⟨W4.heap.size + 1 + 1 + 1 + si, 0, none⟩) R R) ∧ w3.cell? ⟨W4.heap.size + 1 + 1 + 1 + si, di * 2, none⟩ = some (.int .i64 ms) ∧ w3.cell? ⟨W4.heap.size + 1 + 1 + 1 + si, di * 2 + 1, none⟩ = some (.bool mo) := ⟨k0, k1, k2, m0, m1, m2⟩
            refine wpAnyF_take (i := 7) (v := (.pointer (some ⟨W4.heap.size + 1 + 1, si, none⟩))) (by kernel_rfl) (by decide) rfl (by kernel_rfl) (by kernel_rfl) (by kernel_rfl) (fun _ _ _ h => h) (.inl ⟨rfl, fun V hV => ?_⟩) hS1 ?_
            · obtain ⟨z0, z1, z2, z3, z4, z5⟩ := hV
              simp [go_sem, execOp, iI]
            simp only [Act.put, List.setIfInBounds_toArray]
            refine wpAnyF_take (i := 8) (v := (.slice (some ⟨W4.heap.size + 1 + 1 + 1 + si, 0, none⟩) R R)) (by kernel_rfl) (by decide) rfl (by kernel_rfl) (by kernel_rfl) (by kernel_rfl) (fun _ _ _ h => h) (.inl ⟨rfl, fun V hV => ?_⟩) hS1 ?_
            · obtain ⟨z0, z1, z2, z3, z4, z5⟩ := hV
              simp [go_sem, execOp, z3]
            simp only [Act.put]
            refine wpAnyF_take (i := 11) (v := (.pointer (some ⟨W4.heap.size + 1 + 1 + 1 + si, di * 2, none⟩))) (by kernel_rfl) (by decide) rfl (by kernel_rfl) (by kernel_rfl) (by kernel_rfl) (fun _ _ _ h => h) (.inl ⟨rfl, fun V hV => ?_⟩) hS1 ?_
            · obtain ⟨z0, z1, z2, z3, z4, z5⟩ := hV
              simp [go_sem, execOp, jI]
            simp only [Act.put]
            refine wpAnyF_take (i := 12) (v := (.agg #[.int .i64 ms, .bool mo])) (by kernel_rfl) (by decide) rfl (by kernel_rfl) (by kernel_rfl) (by kernel_rfl) (fun _ _ _ h => h) (.inl ⟨rfl, fun V hV => ?_⟩) hS1 ?_
            · obtain ⟨z0, z1, z2, z3, z4, z5⟩ := hV
              simp [go_sem, execOp, z4, z5]
            simp only [Act.put]
            refine wpAnyF_step 14 rfl (by kernel_rfl) (fun K hK => ?_)
            go_simp
            refine hK.out _ _ (.inl rfl) ?_
            clear hK K
            refine wpAnyF_done (by kernel_rfl) ?_ _
            go_wp2_with fail
            go_meet
            exact ⟨_, rfl, hidE ((heap_setCell_same _ _ _ _ _ _ (heap_setCell_same _ _ _ _ _ _ HZ.out)).trans rfl), hidE ((HBW.out.setCell (Nat.le_refl _) _).setCell (Nat.le_refl _) _)⟩
        case rest =>
          obtain ⟨b10, rfl, hx10, hb10⟩ := hcut
          obtain ⟨wf, rfl⟩ : ∃ x : World, x = wc := ⟨wc, rfl⟩
          have hstep : needR R (i + 1) stay out = if mo = true ∧ ms ≤ xm then needR R i rest ((i : Int) :: out) else needR R i stay out := by
            rw [needR, HRE.out, HX.out, HDD.out]
            simp only [Int.toNat_natCast, HMM.out]
          have hn2 := hneed.out
          rw [hstep] at hn2
          have HN2 := hidE hn2
          have STF := hidE (ST4.out.grow hb10.out)
          have HOF := hidE (ownsRow_kept HO9.out hb10.out)
          have xF := blk_below hb10.out (lt_of_block HX4.out) HX4.out
          have g0 : wf.cell? ⟨b10, 0, none⟩ = some (.int .i64 ms) := by rw [cell_of_row _ _ _ _ _ _ hx10.out]; rfl
          have g1 : wf.cell? ⟨b10, 1, none⟩ = some (.bool mo) := by rw [cell_of_row _ _ _ _ _ _ hx10.out]; rfl
          have g2 : wf.cell? ⟨wq.heap.size, 2, none⟩ = some (.int .i64 xm) := by rw [cell_of_row _ _ _ _ _ _ xF]; rfl
          have hrs : rest.length + 1 = stay.length := hrl
          have hri : i ≤ rest.length := by omega
          have HRL := hidE hrl
          clear hstep hn2 hneed hrl hrs xF d0 d1 d2 j1 j2 j3 j4 j5 j6 j7 j8 j9 hwi
          cases mo with
          | false =>
            have hn3 := HN2.out
            rw [if_neg (by simp)] at hn3
            have HN3 := hidE hn3
            clear hn3
            go_wp2_with fail
            go_roundw
            case rel => exact ⟨i, (i : Int) - 1, stay, out, by go_num, rfl, by omega, hsl, by omega, STF, hsub, HN3⟩
            case measure => simp [intOf] <;> omega
          | true =>
            by_cases hle : ms ≤ xm
            · have hn3 := HN2.out
              rw [if_pos ⟨rfl, hle⟩] at hn3
              have hown1 : (wf.alloc (.cells #[.int .i64 (i : Int)] 3)).ownsRow wf.heap.size 3 1 (.slice (some ⟨wf.heap.size, 0, none⟩) 1 1) [(i : Int)].length (intsV [(i : Int)]) :=
                ⟨rfl, .inr ⟨wf.heap.size, 1, #[.int .i64 (i : Int)], rfl, Nat.le_refl _, heap_alloc_new _ _, Nat.le_refl _, by unfold maxLen; omega, rfl, rfl⟩⟩
              obtain ⟨o6, c6, e6, hi6, _⟩ := intsAt_of_owns STF.out.ou
              subst e6
              have ba : Below wf.heap.size wf (wf.alloc (.cells #[.int .i64 (i : Int)] 3)) := (Below.refl _ _).alloc (Nat.le_refl _) _
              obtain ⟨vn, Wn, hrn, hon, hbn⟩ := append_ints (wf.alloc (.cells #[.int .i64 (i : Int)] 3)) wf.heap.size (.slice (some ⟨wf.heap.size, 0, none⟩) 1 1) [(i : Int)] hown1 o6 c6 out (hi6.below ba (Nat.le_refl _)) (by simp) (by omega) (by simp) 27
              have bn := ba.trans hbn
              have STN := hidE (STF.out.grow bn)
              have HRN := hidE hrn
              have HON := hidE (ownsRow_base hon STF.out.bl.size)
              have HOR := hidE (ownsRow_kept HOF.out bn)
              have HN3 := hidE hn3
              clear hn3 hown1 hi6 ba hrn hon hbn bn
              go_wp2_with (at_builtin; refine wpList_op_append rfl (s := .tmp 65) (x := .tmp 66) (t := 27) rfl rfl rfl HRN.out ?_)
              go_roundw
              case rel => exact ⟨i, (i : Int) - 1, rest, (i : Int) :: out, by go_num, rfl, hri, by have := HRL.out; omega, by simp; omega, hidE ⟨STN.out.box, HOR.out, HON.out, STN.out.bl⟩, HRS, HN3⟩
              case measure => simp [intOf] <;> omega
            · have hd : decide (ms ≤ xm) = false := by simpa using hle
              have hn3 := HN2.out
              rw [if_neg (by simp; omega)] at hn3
              have HN3 := hidE hn3
              clear hn3
              go_wp2_with fail
              go_roundw
              case rel => exact ⟨i, (i : Int) - 1, stay, out, by go_num, rfl, by omega, hsl, by omega, STF, hsub, HN3⟩
              case measure => simp [intOf] <;> omega
  · have hE : needlessE N bs = ([], askedE N bs []) := by unfold needlessE; rw [if_neg he]
    obtain ⟨c, hc⟩ : ∃ c, askedE N bs [] = c := ⟨_, rfl⟩
    rw [hc] at hE hask he
    have hc2 : (c != 0) = true := by simpa using he
    have HE := hidE hE
    have HA := hidE hask
    clear hE he hc hask hN
    go_enter Try.func36, Try.ntmps36
    go_wp2_with fail
    refine HA.out.mono ?_
    rintro e w1 ⟨rfl, hb1⟩
    go_wp2_with fail
    go_ret2
    exact ⟨by rw [HE.out]; exact ⟨_, rfl, World.ownsRow_nil _ _ _ _⟩, B0.out.trans (hb1.mono B0.out.size)⟩

end Go.Proofs.Ytejbpoclfjkllaa
