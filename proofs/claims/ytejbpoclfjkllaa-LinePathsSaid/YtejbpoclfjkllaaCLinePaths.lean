/- The law LinePaths: for every input the call returns true, and its arguments read as before. No conditions. -/
import Derived.Test.YtejbpoclfjkllaaCZs
import Derived.Test.YtejbpoclfjkllaaCFr
namespace Go.Proofs.Ytejbpoclfjkllaa
open Go Go.ChangeShapes Go.WideShapes Go.ChangeAt Go.RowKit

set_option maxRecDepth 100000 in
theorem linePaths_lifted (os : Os) (started : os.Started) (H : Type) (enc : TypeId × Value → H) :
    ReturnsInHanded {} Try.checked os 16 .any (Rows.linePathsSpec.pre6 enc Try.prog Try.f16 Rows.linePathsRow.domain false) (Rows.linePathsSpec.post enc Try.prog Try.f16 false true false false) := by
  refine returnsInHanded_of_change (C := Try.checked) Try.own started (by kernel_rfl) Try.func16
    (ChangeSpec.witness6 (enc := enc) (C := Try.checked) false ⟨#[], #[.agg #[.int .i64 0, .slice none 0 0], .int .i64 0, .int .i64 0, .slice none 0 0, .int .i64 0], []⟩ 8 (by kernel_rfl) (by kernel_rfl) (by kernel_rfl) (by kernel_rfl)) ?_
  intro W base args ds gs before hval0 hW hcnd _
  have hval : ∀ (j : Nat) t v, Try.f16.params[j]? = some t → args[j]? = some v → Value.okWide Try.prog W .any base t v := hval0
  have hW' := hW
  obtain ⟨p, q, hA0, hV, rfl, hfz, hnd⟩ := hW
  have hA : DataW.TrodAll enc Try.prog W 0 (fun _ => true) true Try.f16.params.toList args.toList ds p := hA0
  rw [Try.params16] at hA hval
  obtain ⟨v0, vs0, d0, ds0, p0, q0, hargs, rfl, rfl, h0, r0⟩ := trodAll_cons hA
  obtain ⟨v1, vs1, d1, ds1, p1, q1, rfl, rfl, rfl, h1, r1⟩ := trodAll_cons r0
  obtain ⟨v2, vs2, d2, ds2, p2, q2, rfl, rfl, rfl, h2, r2⟩ := trodAll_cons r1
  obtain ⟨v3, vs3, d3, ds3, p3, q3, rfl, rfl, rfl, h3, r3⟩ := trodAll_cons r2
  obtain ⟨v4, vs4, d4, ds4, p4, q4, rfl, rfl, rfl, h4, r4⟩ := trodAll_cons r3
  obtain ⟨rfl, rfl, rfl⟩ := trodAll_nil r4
  obtain rfl : args = #[v0, v1, v2, v3, v4] := by cases args; simp_all
  obtain ⟨rfl, rfl⟩ := trodVars_none hV
  obtain ⟨N0, a0, cap0, bs0, rfl, hN0, hB0, hS0, hl0, hok0⟩ := open_sys (hval 0 24 v0 rfl rfl) h0
  obtain ⟨n1, rfl, hn1⟩ := open_num (hval 1 3 v1 rfl rfl) h1
  obtain ⟨n2, rfl, hn2⟩ := open_num (hval 2 3 v2 rfl rfl) h2
  obtain ⟨a3, cap3, y3, rfl, hY3, hZ3, hm3, hyo3⟩ := open_list (hval 3 27 v3 rfl rfl) h3
  obtain ⟨n4, rfl, hn4⟩ := open_num (hval 4 3 v4 rfl rfl) h4
  refine (linePaths_any W N0 a0 cap0 bs0 n1 n2 a3 cap3 y3 n4 hN0 hl0 hB0 hm3 hY3).mono fun e W' ⟨he, hg⟩ => ?_
  subst he
  refine ⟨_, rfl, law_post hW' hg (by kernel_rfl) ?_ rfl rfl⟩
  intro t ht
  rw [Try.params16] at ht
  simp only [List.mem_cons, List.not_mem_nil, or_false] at ht
  rcases ht with rfl | rfl | rfl | rfl | rfl
  · exact argOk24
  · exact argOk3
  · exact argOk3
  · exact argOk27
  · exact argOk3

/-! The row's closed facts, each by itself. -/
theorem linePaths_j0 : (Rows.linePathsRow.wf (OpenSpec.ofChange Rows.linePathsSpec)) = true := by kernel_rfl
theorem linePaths_j3 : (Try.f16.params.all (Try.prog.readableRec ·)) = true := by kernel_rfl
theorem linePaths_j4 : (namedTie Try.prog Rows.linePathsRow.named Rows.linePathsSpec.vars) = true := by kernel_rfl
theorem linePaths_j5 : ((Rows.linePathsRow.stops == [])) = true := by kernel_rfl
theorem linePaths_j7 : ((Rows.linePathsRow.knobs == [])) = true := by kernel_rfl
theorem linePaths_j9 : ((Rows.linePathsRow.inPlace == Try.prog.inPlace 16)) = true := by kernel_rfl
theorem linePaths_j10 : ((Rows.linePathsRow.unfollowed == Try.prog.unfollowed 16)) = true := by kernel_rfl
theorem linePaths_j11 : ((Rows.linePathsRow.recurses == Try.prog.recurses 16)) = true := by kernel_rfl
theorem linePaths_j12 : ((Rows.linePathsRow.named == Try.prog.varsNamed 16)) = true := by kernel_rfl
theorem linePaths_j13 : ((Rows.linePathsRow.maps == (Try.f16.params.toList ++ Rows.linePathsSpec.plain.varTypes Try.prog).any (Try.prog.mapsRec ·))) = true := by kernel_rfl
theorem linePaths_j14 : ((Rows.linePathsRow.ifaces == (Try.f16.params.toList ++ Rows.linePathsSpec.plain.varTypes Try.prog).any (Try.prog.ifacesRec ·))) = true := by kernel_rfl
theorem linePaths_j15 : ((Rows.linePathsRow.mapsOut == Try.prog.mapsAmong Try.f16.resultTypes.toList)) = true := by kernel_rfl
theorem linePaths_j16 : ((Rows.linePathsRow.loops == (Try.f16.params.toList ++ Rows.linePathsSpec.plain.varTypes Try.prog).any (Try.prog.loopsFrom ·))) = true := by kernel_rfl
theorem linePaths_j17 : ((Rows.linePathsRow.wideKeys == (Try.f16.params.toList ++ Rows.linePathsSpec.plain.varTypes Try.prog ++ Try.f16.resultTypes.toList).any (Try.prog.wideKeysFrom ·))) = true := by kernel_rfl
theorem linePaths_j18 : (Rows.linePathsSpec.vars.all (Try.prog.varReadable ·)) = true := by kernel_rfl
theorem linePaths_j19 : (Try.f16.resultTypes.all (fun t => Try.prog.readableRec t && decide (t < Try.prog.types.size))) = true := by kernel_rfl
theorem linePaths_j20 : ((Rows.linePathsRow.ifacesOut == Try.f16.resultTypes.toList.any (Try.prog.ifacesRec ·))) = true := by kernel_rfl
theorem linePaths_j21 : ((Rows.linePathsRow.loopsOut == Try.f16.resultTypes.toList.any (Try.prog.loopsFrom ·))) = true := by kernel_rfl
theorem linePaths_j22 : ((Rows.linePathsRow.plainKeys == Try.prog.plainKeys)) = true := by rw [Try.fact22]; rfl
theorem linePaths_j23 : (Rows.linePathsRow.shortTexts.isNone) = true := by kernel_rfl
theorem linePaths_j26 : ((Rows.linePathsRow.lifted == Try.prog.liftsFinal)) = true := by rw [Try.fact26]; rfl
theorem linePaths_j27 : ((Try.prog.make == some Rows.linePathsRow.make)) = true := by rw [Try.fact27]; rfl
theorem linePaths_j28 : ((Rows.linePathsRow.kinds == (if Rows.linePathsRow.domain.isEmpty then [] else Try.f16.params.toList.map fun t => match Try.prog.underlying t with | some (.int k) => some k | _ => none))) = true := by kernel_rfl
theorem linePaths_j29 : ((Rows.linePathsRow.pinned == Rows.linePathsRow.pinnedBy)) = true := by kernel_rfl
theorem linePaths_j30 : ((Rows.linePathsRow.veiled == (Try.f16.params.toList ++ Rows.linePathsSpec.plain.varTypes Try.prog ++ Try.f16.resultTypes.toList).any (Try.prog.veiledRec ·))) = true := by kernel_rfl
theorem linePaths_j31 : (Rows.linePathsRow.veiledFits Try.prog Try.f16.params.toList (Try.f16.params.toList ++ Rows.linePathsSpec.plain.varTypes Try.prog ++ Try.f16.resultTypes.toList)) = true := by kernel_rfl
set_option maxRecDepth 100000 in
theorem linePaths_closed : joinedFacts Try.prog 16 Try.f16 Rows.linePathsSpec Rows.linePathsRow = true := by
  unfold joinedFacts
  exact (and2 (and2 (and2 (and2 (and2 (and2 (and2 (and2 (and2 (and2 (and2 (and2 (and2 (and2 (and2 (and2 (and2 (and2 (and2 (and2 (and2 (and2 (and2 (and2 (and2 (and2 (and2 (and2 (and2 (and2 (and2 linePaths_j0 Try.fact1) Try.fact2) linePaths_j3) linePaths_j4) linePaths_j5) Try.fact6) linePaths_j7) Try.fact8) linePaths_j9) linePaths_j10) linePaths_j11) linePaths_j12) linePaths_j13) linePaths_j14) linePaths_j15) linePaths_j16) linePaths_j17) linePaths_j18) linePaths_j19) linePaths_j20) linePaths_j21) linePaths_j22) linePaths_j23) Try.fact24) Try.fact25) linePaths_j26) linePaths_j27) linePaths_j28) linePaths_j29) linePaths_j30) linePaths_j31)
theorem linePaths_named : Try.prog.funcNamed Rows.linePathsRow.func = some 16 := by kernel_rfl
theorem linePaths_instance : Try.f16.isInstance Try.prog Rows.linePathsRow.origin Rows.linePathsRow.targs := of_decide_eq_true (by kernel_rfl)
theorem linePaths_wrapper : Try.f16.isWrapper Try.prog Rows.linePathsRow.wrapper Rows.linePathsRow.mainSum := by unfold Func.isWrapper; first | (rw [if_pos (by decide +kernel)]; kernel_rfl) | (rw [if_neg (by decide +kernel)]; exact ⟨rfl, rfl⟩)

set_option maxRecDepth 100000 in
theorem linePaths_over : Rows.linePathsRow.holds Try.pinned (OpenSpec.ofChange Rows.linePathsSpec) :=
  OpenClaim.holds_of_wide 16 Try.f16 rfl rfl rfl rfl rfl rfl rfl ⟨rfl, rfl, rfl, rfl, rfl⟩ rfl rfl rfl rfl rfl linePaths_named Try.func16 linePaths_closed linePaths_instance linePaths_wrapper
    (fun os started H enc _ => linePaths_lifted os started H enc)

/-- THE STATEMENT. -/
theorem linePaths_holds : Rows.LinePathsSaid := linePaths_over

end Go.Proofs.Ytejbpoclfjkllaa
