/- Walk: the reference's Rigid. Conditions: at most 40 points where the system is checked. -/
import Derived.Test.YtejbpoclfjkllaaCZl
import Derived.Test.YtejbpoclfjkllaaCYa
namespace Go.Proofs.Ytejbpoclfjkllaa
open Go Go.RowKit Go.Shelf

set_option maxRecDepth 100000 in
set_option maxHeartbeats 4000000 in
theorem refrigid_any (w : World) (N : Int) (a : Option Addr) (cap : Nat) (bs : List Bd) (hN : i64ok N) (hl : bs.length ≤ 9223372036854775807) (h : BoundsAt w a bs) (hsm : checkP N bs = 0 → N ≤ 40) :
    Calls Try.prog 66 #[.agg #[.int .i64 N, .slice a bs.length cap]] w fun e w' => ListsPost (rigidE N bs).1 (rigidE N bs).2 w.heap.size e w' ∧ Below w.heap.size w w' := by
  have H := hidE h
  have HN := hidE hN
  clear h hN
  have hB0 : Below w.heap.size w (w.alloc (.cells #[.int .i64 N, .slice a bs.length cap] 24)) := (Below.refl _ _).alloc (Nat.le_refl _) _
  have hx0 : (w.alloc (.cells #[.int .i64 N, .slice a bs.length cap] 24)).heap[w.heap.size]? = some (.cells #[.int .i64 N, .slice a bs.length cap] 24 (0,0)) := heap_alloc_new _ _
  have hask : Calls Try.prog 90 #[.agg #[.int .i64 N, .slice a bs.length cap], .slice none 0 0] (w.alloc (.cells #[.int .i64 N, .slice a bs.length cap] 24)) _ :=
    pointed_any _ N a cap bs none 0 [] HN.out hl (by simp) (H.out.alloc _) (.inl rfl)
  have X0 := hidE hx0
  clear hx0
  by_cases he : askedE N bs [] = 0
  · have h40 := hsm (askedE_zero he).1
    obtain ⟨R, t, rfl, ht, HO⟩ := asked0 he
    have h40' : R ≤ 40 := by omega
    have hn0 := HO.n0
    rw [he] at hask
    have hE : rigidE R bs = (rigidL R (distN R bs), 0) := by unfold rigidE; rw [if_pos he]; simp only [Int.toNat_natCast]
    have heq := eqvD_of HO ht
    have hsame : ∀ a b, a < R → b < R → sameM (matrixP R bs) a b = sameD (distN R bs) a b := fun a b ha hb => sameM_dist HO ht ha hb
    have hdim := matrix_dim HO
    have hsz : ∀ i j, i < R → j < R → -2000000000000000000 ≤ (mget (matrixP R bs) i j).s ∧ (mget (matrixP R bs) i j).s ≤ 2000000000000000000 := fun i j hi hj => matrix_size HO h40' hi hj
    have hmat := fun W hb => matrix_net W R a cap bs t HO h40' hb
    obtain ⟨d, hdd⟩ : ∃ d, matrixP R bs = d := ⟨_, rfl⟩
    obtain ⟨D, hD⟩ : ∃ D, distN R bs = D := ⟨_, rfl⟩
    rw [hD] at hE heq hsame
    rw [hdd] at hsame hdim hsz hmat
    have HE := hidE hE
    have HA := hidE hask
    have HEQ := hidE heq
    have HSAME := hidE hsame
    have HDIM := hidE hdim
    have HSZ := hidE hsz
    have HM := hidE hmat
    clear hE hask heq hsame hdim hsz hmat hdd hD he ht HO hsm
    have hmk4 := fun W => run_make_row' (P := Try.prog) 45 4 (.bool false) 1 Try.underlying45 Try.info4' rfl .i64 .i64 R (by omega) (by omega) W
    go_enter Try.func66, Try.ntmps66
    go_wp2_with fail
    refine HA.out.mono ?_
    rintro e w1 ⟨rfl, hb1⟩
    have x1 := blk_below hb1 (by simp) X0.out
    have e0 : w1.cell? ⟨w.heap.size, 0, none⟩ = some (.int .i64 (R : Int)) := by rw [cell_of_row _ _ _ _ _ _ x1]; rfl
    have e1 : w1.cell? ⟨w.heap.size, 1, none⟩ = some (.slice a bs.length cap) := by rw [cell_of_row _ _ _ _ _ _ x1]; rfl
    have B1 := hidE (hB0.trans (hb1.mono hB0.size))
    have X1 := hidE x1
    have l1 : w.heap.size < w1.heap.size := lt_of_block x1
    clear x1 hb1
    go_wp2_with fail
    refine (HM.out _ (H.out.below B1.out (Nat.le_refl _))).mono ?_
    rintro e w2 ⟨rfl, hm, hb2⟩
    have MA := hidE hm
    have X2 := hidE (blk_below hb2 l1 X1.out)
    have HB2 := hidE (B1.out.trans (hb2.mono B1.out.size))
    have l2 : w.heap.size < w2.heap.size := lt_of_block X2.out
    obtain ⟨B, hBB⟩ : ∃ B, w1.heap.size + 1 = B := ⟨_, rfl⟩
    rw [hBB] at MA ⊢
    clear e0 e1 hb2 hm hBB
    have e0 : w2.cell? ⟨w.heap.size, 0, none⟩ = some (.int .i64 (R : Int)) := by rw [cell_of_row _ _ _ _ _ _ X2.out]; rfl
    go_upto_region 7 with fail
    obtain ⟨W3, hW3⟩ : ∃ X, X = w2.alloc (.cells (madeCells #[.bool false] R) 4) := ⟨_, rfl⟩
    rw [← hW3]
    obtain ⟨bd, hbd⟩ : ∃ b, b = w2.heap.size := ⟨_, rfl⟩
    rw [← hbd]
    have st3 : Hid (RgSt w2 W3 bd (.slice none 0 0) (rigidS R D 0).1 (rigidS R D 0).2) := hidE (by
      rw [hW3, hbd]
      refine ⟨?_, ownsL_nil _ _, (Below.refl _ _).alloc (Nat.le_refl _) _⟩
      rw [heap_alloc_new, madeBools]; rfl)
    have h2d : w2.heap.size ≤ bd := by omega
    clear hW3 hbd hmk4 e0
    have e0 : W3.cell? ⟨w.heap.size, 0, none⟩ = some (.int .i64 (R : Int)) := by rw [cell_of_row _ _ _ _ _ _ (blk_below st3.out.bl l2 X2.out)]; rfl
    go_wp2_with fail
    clear e0
    go_loopw [6, 8] (fun v8 i wr => ∃ k : Nat, k ≤ R ∧ i = .int .i64 k ∧ Hid (RgSt w2 wr bd v8 (rigidS R D k).1 (rigidS R D k).2)) (fun _ i _ => R - (intOf i).toNat)
    case atStart => exact ⟨0, by omega, rfl, st3⟩
    case round =>
      obtain ⟨k, hk, rfl, hst⟩ := hrel
      have e0 : wr.cell? ⟨w.heap.size, 0, none⟩ = some (.int .i64 (R : Int)) := by rw [cell_of_row _ _ _ _ _ _ (blk_below hst.out.bl l2 X2.out)]; rfl
      by_cases hlt : k < R
      · have kR : (k : Int) < (R : Int) := by omega
        have hlen := rigidS_len R D k
        have hskip := fun hh => rigidS_skip (N := R) (D := D) (k := k) hh
        have htake := fun hh => rigidS_take (N := R) (D := D) (k := k) hh
        obtain ⟨⟨fl, ls⟩, hfl⟩ : ∃ s, rigidS R D k = s := ⟨_, rfl⟩
        rw [hfl] at hst hlen hskip htake
        simp only at hst hlen hskip htake
        have cd : wr.cell? ⟨bd, k, none⟩ = some (.bool (fl.getD k false)) := by rw [cell_of_row _ _ _ _ _ _ hst.out.d, boolA_get (by omega)]
        have HSK := hidE hskip
        have HTK := hidE htake
        have HLN := hidE hlen
        clear hfl hlen hskip htake
        obtain ⟨wO, rfl⟩ : ∃ x : World, x = wr := ⟨wr, rfl⟩
        cases hf : fl.getD k false with
        | true =>
          rw [hf] at cd
          have HN2 := hidE (HSK.out hf)
          clear hf
          go_wp2_with fail
          go_roundw
          case rel => exact ⟨k + 1, by omega, by go_num, hidE (by rw [HN2.out]; exact hst.out)⟩
          case measure => simp [intOf]; omega
        | false =>
          rw [hf] at cd
          have HN2 := hidE (HTK.out hf)
          have ldO : bd < wO.heap.size := lt_of_block hst.out.d
          have l2O : w2.heap.size ≤ wO.heap.size := hst.out.bl.size
          have STI := hidE hst.out.inner
          have HG := hst
          clear hf hst
          go_wp2_with fail
          clear cd e0
          go_loopw [9, 10] (fun v10 i wx => ∃ b : Nat, k ≤ b ∧ b ≤ R ∧ i = .int .i64 b ∧ Hid (RiSt w2 wO wx bd v10 (doneTo R D fl k b) (classTo D k b))) (fun _ i _ => R - (intOf i).toNat)
          case atStart => exact ⟨k, by omega, by omega, rfl, hidE (by rw [doneTo_start k HLN.out.1, classTo_start]; exact STI.out)⟩
          case round =>
            obtain ⟨b, hkb, hb, rfl, hst⟩ := hrel
            have e1 : wr.cell? ⟨w.heap.size, 0, none⟩ = some (.int .i64 (R : Int)) := by rw [cell_of_row _ _ _ _ _ _ (blk_below hst.out.bl l2 X2.out)]; rfl
            by_cases hlb : b < R
            · have bR : (b : Int) < (R : Int) := by omega
              have hsp := refspan_any wr B R d k b (MA.out.below hst.out.bl) HDIM.out hlt hlb (HSZ.out b k hlb hlt).1 (HSZ.out b k hlb hlt).2
              have hsm : sameD D k b = sameM d k b := (HSAME.out k b hlt hlb).symm
              unfold spanR Sp.arr at hsp
              unfold sameM at hsm
              obtain ⟨lv, hlv⟩ : ∃ v, -frV (mget d b k) = v := ⟨_, rfl⟩
              obtain ⟨hv, hhv⟩ : ∃ v, frV (mget d k b) = v := ⟨_, rfl⟩
              obtain ⟨lb, hlbb⟩ : ∃ v, (mget d b k).ok = v := ⟨_, rfl⟩
              obtain ⟨ub, hub⟩ : ∃ v, (mget d k b).ok = v := ⟨_, rfl⟩
              rw [hlv, hhv, hlbb, hub] at hsp hsm
              have HSP := hidE hsp
              clear hsp hlv hhv hlbb hub
              go_wp2_with fail
              refine HSP.out.mono ?_
              rintro e w4 ⟨rfl, hb4⟩
              have HS4 := hidE (hst.out.grow hb4)
              clear hb4 e1
              go_upto_region 16 with fail
              obtain ⟨W5, hW5⟩ : ∃ X, X = w4.alloc (.cells #[.int .i64 lv, .int .i64 hv, .bool lb, .bool ub] 33) := ⟨_, rfl⟩
              rw [← hW5]
              have x5 : W5.heap[w4.heap.size]? = some (.cells #[.int .i64 lv, .int .i64 hv, .bool lb, .bool ub] 33 (0,0)) := by rw [hW5]; exact heap_alloc_new _ _
              have b5 : Below w4.heap.size w4 W5 := by rw [hW5]; exact (Below.refl _ _).alloc (Nat.le_refl _) _
              have HS5 := hidE (HS4.out.grow b5)
              have g0 : W5.cell? ⟨w4.heap.size, 0, none⟩ = some (.int .i64 lv) := by rw [cell_of_row _ _ _ _ _ _ x5]; rfl
              have g1 : W5.cell? ⟨w4.heap.size, 1, none⟩ = some (.int .i64 hv) := by rw [cell_of_row _ _ _ _ _ _ x5]; rfl
              have g2 : W5.cell? ⟨w4.heap.size, 2, none⟩ = some (.bool lb) := by rw [cell_of_row _ _ _ _ _ _ x5]; rfl
              have g3 : W5.cell? ⟨w4.heap.size, 3, none⟩ = some (.bool ub) := by rw [cell_of_row _ _ _ _ _ _ x5]; rfl
              clear hW5 x5 b5
              cases lb with
              | false =>
                have HSM := hidE hsm
                clear hsm
                go_wp2_with fail
                go_roundw
                case rel => exact ⟨b + 1, by omega, by omega, by go_num, hidE (by rw [doneTo_no HSM.out, classTo_no HSM.out]; exact HS5.out)⟩
                case measure => simp [intOf]; omega
              | true =>
                cases ub with
                | false =>
                  have HSM := hidE hsm
                  clear hsm
                  go_wp2_with fail
                  go_roundw
                  case rel => exact ⟨b + 1, by omega, by omega, by go_num, hidE (by rw [doneTo_no HSM.out, classTo_no HSM.out]; exact HS5.out)⟩
                  case measure => simp [intOf]; omega
                | true =>
                  by_cases he : lv = hv
                  · have hq : (lv == hv) = true := by simpa using he
                    have hsm2 : sameD D k b = true := by rw [hsm, hq]; rfl
                    clear hsm he
                    have hsm := hsm2
                    clear hsm2
                    have HSM := hidE hsm
                    clear hsm
                    obtain ⟨v10', W1, HR1, HD1, HS1⟩ := HS5.out.push (by omega) (by omega) (by omega) b (by have := classTo_len D k b; omega)
                    have hdl := doneTo_len R D fl k b
                    have co : W1.cell? ⟨bd, b, none⟩ = some (.bool ((doneTo R D fl k b).getD b false)) := by rw [cell_of_row _ _ _ _ _ _ HD1.out, boolA_get (by omega)]
                    have fo : W1.frozen? ⟨bd, b, none⟩ = false := frozen_of_row _ _ _ _ _ HD1.out
                    obtain ⟨xo, hxo⟩ : ∃ x, (doneTo R D fl k b).getD b false = x := ⟨_, rfl⟩
                    rw [hxo] at co
                    clear hxo hdl
                    go_wp2_with (at_builtin; refine wpList_op_append rfl (s := .tmp 56) (x := .tmp 58) (t := 27) rfl rfl rfl HR1.out ?_)
                    go_roundw
                    case rel => exact ⟨b + 1, by omega, by omega, by go_num, hidE (by rw [doneTo_yes hkb hlb HSM.out, classTo_yes hkb HSM.out]; exact HS1.out)⟩
                    case measure => simp [intOf]; omega
                  · have hq : (lv == hv) = false := by simpa using he
                    have hsm2 : sameD D k b = false := by rw [hsm, hq]; rfl
                    clear hsm he
                    have hsm := hsm2
                    clear hsm2
                    have HSM := hidE hsm
                    clear hsm
                    go_wp2_with fail
                    go_roundw
                    case rel => exact ⟨b + 1, by omega, by omega, by go_num, hidE (by rw [doneTo_no HSM.out, classTo_no HSM.out]; exact HS5.out)⟩
                    case measure => simp [intOf]; omega
            · obtain rfl : b = R := by omega
              obtain ⟨o10, c10, e10, _, _⟩ := intsAt_of_owns hst.out.o
              obtain ⟨n10, hn10⟩ : ∃ n, (classTo D k b).length = n := ⟨_, rfl⟩
              subst e10
              obtain ⟨v8', W2, HR, HS⟩ := HG.out.close hst.out (by have := HLN.out.2; omega)
              rw [hn10] at HR ⊢
              clear hn10
              go_wp2_with (at_builtin; refine wpList_op_append rfl (s := .tmp 63) (x := .tmp 65) (t := 62) rfl rfl rfl HR.out ?_)
              go_roundw
              case rel => exact ⟨k + 1, by omega, by go_num, hidE (by rw [HN2.out]; exact HS.out)⟩
              case measure => simp [intOf]; omega
      · obtain rfl : k = R := by omega
        have hend := rigidS_end (N := k) (D := D) HEQ.out
        obtain ⟨o8, c8, e8, _⟩ := hst.out.o.lists
        subst e8
        have HBF := hidE (HB2.out.trans (hst.out.bl.mono HB2.out.size))
        have HOW := hidE (hst.out.o.base HB2.out.size)
        have HEN := hidE hend
        obtain ⟨n8, hn8⟩ : ∃ n, (rigidS k D k).2.length = n := ⟨_, rfl⟩
        rw [hn8] at HOW ⊢
        clear hend hn8 hst
        go_wp2_with fail
        refine bodyPost_ret (v := .tuple #[.slice o8 n8 c8, .int .i64 0]) (by simp [results, Try.results66, go_sem]) rfl ⟨?_, HBF.out⟩
        rw [HE.out]
        exact ⟨_, rfl, by rw [← HEN.out]; exact HOW.out⟩
  · have hE : rigidE N bs = ([], askedE N bs []) := by unfold rigidE; rw [if_neg he]
    obtain ⟨c, hc⟩ : ∃ c, askedE N bs [] = c := ⟨_, rfl⟩
    rw [hc] at hE hask he
    have hc2 : (c != 0) = true := by simpa using he
    have HE := hidE hE
    have HA := hidE hask
    clear hE he hc hask
    go_enter Try.func66, Try.ntmps66
    go_wp2_with fail
    refine HA.out.mono ?_
    rintro e w1 ⟨rfl, hb1⟩
    go_wp2_with fail
    refine bodyPost_ret (v := .tuple #[.slice none 0 0, .int .i64 c]) (by simp [results, Try.results66, go_sem]) rfl ⟨?_, hB0.trans (hb1.mono hB0.size)⟩
    rw [HE.out]
    exact ⟨_, rfl, ownsL_nil _ _⟩

end Go.Proofs.Ytejbpoclfjkllaa
