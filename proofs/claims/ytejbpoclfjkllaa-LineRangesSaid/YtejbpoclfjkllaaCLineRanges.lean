/- The law LineRanges: for every input the call returns true, and its arguments read as before. No conditions. -/
import Derived.Test.YtejbpoclfjkllaaCZ8
import Derived.Test.YtejbpoclfjkllaaCFr
namespace Go.Proofs.Ytejbpoclfjkllaa
open Go Go.ChangeShapes Go.WideShapes Go.ChangeAt Go.RowKit

set_option maxRecDepth 100000 in
theorem lineRanges_lifted (os : Os) (started : os.Started) (H : Type) (enc : TypeId × Value → H) :
    ReturnsInHanded {} Try.checked os 4 .any (Rows.lineRangesSpec.pre6 enc Try.prog Try.f4 Rows.lineRangesRow.domain false) (Rows.lineRangesSpec.post enc Try.prog Try.f4 false true false false) := by
  refine returnsInHanded_of_change (C := Try.checked) Try.own started (by kernel_rfl) Try.func4
    (ChangeSpec.witness6 (enc := enc) (C := Try.checked) false ⟨#[], #[.agg #[.int .i64 0, .slice none 0 0], .int .i64 0, .int .i64 0], []⟩ 8 (by kernel_rfl) (by kernel_rfl) (by kernel_rfl) (by kernel_rfl)) ?_
  intro W base args ds gs before hval0 hW hcnd _
  have hval : ∀ (j : Nat) t v, Try.f4.params[j]? = some t → args[j]? = some v → Value.okWide Try.prog W .any base t v := hval0
  have hW' := hW
  obtain ⟨p, q, hA0, hV, rfl, hfz, hnd⟩ := hW
  have hA : DataW.TrodAll enc Try.prog W 0 (fun _ => true) true Try.f4.params.toList args.toList ds p := hA0
  rw [Try.params4] at hA hval
  obtain ⟨v0, vs0, d0, ds0, p0, q0, hargs, rfl, rfl, h0, r0⟩ := trodAll_cons hA
  obtain ⟨v1, vs1, d1, ds1, p1, q1, rfl, rfl, rfl, h1, r1⟩ := trodAll_cons r0
  obtain ⟨v2, vs2, d2, ds2, p2, q2, rfl, rfl, rfl, h2, r2⟩ := trodAll_cons r1
  obtain ⟨rfl, rfl, rfl⟩ := trodAll_nil r2
  obtain rfl : args = #[v0, v1, v2] := by cases args; simp_all
  obtain ⟨rfl, rfl⟩ := trodVars_none hV
  obtain ⟨N0, a0, cap0, bs0, rfl, hN0, hB0, hS0, hl0, hok0⟩ := open_sys (hval 0 24 v0 rfl rfl) h0
  obtain ⟨n1, rfl, hn1⟩ := open_num (hval 1 3 v1 rfl rfl) h1
  obtain ⟨n2, rfl, hn2⟩ := open_num (hval 2 3 v2 rfl rfl) h2
  refine (lineRanges_any W N0 a0 cap0 bs0 n1 n2 hN0 hl0 hB0).mono fun e W' ⟨he, hg⟩ => ?_
  subst he
  refine ⟨_, rfl, law_post hW' hg (by kernel_rfl) ?_ rfl rfl⟩
  intro t ht
  rw [Try.params4] at ht
  simp only [List.mem_cons, List.not_mem_nil, or_false] at ht
  rcases ht with rfl | rfl | rfl
  · exact argOk24
  · exact argOk3
  · exact argOk3

/-! The row's closed facts, each by itself. -/
theorem lineRanges_j0 : (Rows.lineRangesRow.wf (OpenSpec.ofChange Rows.lineRangesSpec)) = true := by kernel_rfl
theorem lineRanges_j3 : (Try.f4.params.all (Try.prog.readableRec ·)) = true := by kernel_rfl
theorem lineRanges_j4 : (namedTie Try.prog Rows.lineRangesRow.named Rows.lineRangesSpec.vars) = true := by kernel_rfl
theorem lineRanges_j5 : ((Rows.lineRangesRow.stops == [])) = true := by kernel_rfl
theorem lineRanges_j7 : ((Rows.lineRangesRow.knobs == [])) = true := by kernel_rfl
theorem lineRanges_j9 : ((Rows.lineRangesRow.inPlace == Try.prog.inPlace 4)) = true := by kernel_rfl
theorem lineRanges_j10 : ((Rows.lineRangesRow.unfollowed == Try.prog.unfollowed 4)) = true := by kernel_rfl
theorem lineRanges_j11 : ((Rows.lineRangesRow.recurses == Try.prog.recurses 4)) = true := by kernel_rfl
theorem lineRanges_j12 : ((Rows.lineRangesRow.named == Try.prog.varsNamed 4)) = true := by kernel_rfl
theorem lineRanges_j13 : ((Rows.lineRangesRow.maps == (Try.f4.params.toList ++ Rows.lineRangesSpec.plain.varTypes Try.prog).any (Try.prog.mapsRec ·))) = true := by kernel_rfl
theorem lineRanges_j14 : ((Rows.lineRangesRow.ifaces == (Try.f4.params.toList ++ Rows.lineRangesSpec.plain.varTypes Try.prog).any (Try.prog.ifacesRec ·))) = true := by kernel_rfl
theorem lineRanges_j15 : ((Rows.lineRangesRow.mapsOut == Try.prog.mapsAmong Try.f4.resultTypes.toList)) = true := by kernel_rfl
theorem lineRanges_j16 : ((Rows.lineRangesRow.loops == (Try.f4.params.toList ++ Rows.lineRangesSpec.plain.varTypes Try.prog).any (Try.prog.loopsFrom ·))) = true := by kernel_rfl
theorem lineRanges_j17 : ((Rows.lineRangesRow.wideKeys == (Try.f4.params.toList ++ Rows.lineRangesSpec.plain.varTypes Try.prog ++ Try.f4.resultTypes.toList).any (Try.prog.wideKeysFrom ·))) = true := by kernel_rfl
theorem lineRanges_j18 : (Rows.lineRangesSpec.vars.all (Try.prog.varReadable ·)) = true := by kernel_rfl
theorem lineRanges_j19 : (Try.f4.resultTypes.all (fun t => Try.prog.readableRec t && decide (t < Try.prog.types.size))) = true := by kernel_rfl
theorem lineRanges_j20 : ((Rows.lineRangesRow.ifacesOut == Try.f4.resultTypes.toList.any (Try.prog.ifacesRec ·))) = true := by kernel_rfl
theorem lineRanges_j21 : ((Rows.lineRangesRow.loopsOut == Try.f4.resultTypes.toList.any (Try.prog.loopsFrom ·))) = true := by kernel_rfl
theorem lineRanges_j22 : ((Rows.lineRangesRow.plainKeys == Try.prog.plainKeys)) = true := by rw [Try.fact22]; rfl
theorem lineRanges_j23 : (Rows.lineRangesRow.shortTexts.isNone) = true := by kernel_rfl
theorem lineRanges_j26 : ((Rows.lineRangesRow.lifted == Try.prog.liftsFinal)) = true := by rw [Try.fact26]; rfl
theorem lineRanges_j27 : ((Try.prog.make == some Rows.lineRangesRow.make)) = true := by rw [Try.fact27]; rfl
theorem lineRanges_j28 : ((Rows.lineRangesRow.kinds == (if Rows.lineRangesRow.domain.isEmpty then [] else Try.f4.params.toList.map fun t => match Try.prog.underlying t with | some (.int k) => some k | _ => none))) = true := by kernel_rfl
theorem lineRanges_j29 : ((Rows.lineRangesRow.pinned == Rows.lineRangesRow.pinnedBy)) = true := by kernel_rfl
theorem lineRanges_j30 : ((Rows.lineRangesRow.veiled == (Try.f4.params.toList ++ Rows.lineRangesSpec.plain.varTypes Try.prog ++ Try.f4.resultTypes.toList).any (Try.prog.veiledRec ·))) = true := by kernel_rfl
theorem lineRanges_j31 : (Rows.lineRangesRow.veiledFits Try.prog Try.f4.params.toList (Try.f4.params.toList ++ Rows.lineRangesSpec.plain.varTypes Try.prog ++ Try.f4.resultTypes.toList)) = true := by kernel_rfl
set_option maxRecDepth 100000 in
theorem lineRanges_closed : joinedFacts Try.prog 4 Try.f4 Rows.lineRangesSpec Rows.lineRangesRow = true := by
  unfold joinedFacts
  exact (and2 (and2 (and2 (and2 (and2 (and2 (and2 (and2 (and2 (and2 (and2 (and2 (and2 (and2 (and2 (and2 (and2 (and2 (and2 (and2 (and2 (and2 (and2 (and2 (and2 (and2 (and2 (and2 (and2 (and2 (and2 lineRanges_j0 Try.fact1) Try.fact2) lineRanges_j3) lineRanges_j4) lineRanges_j5) Try.fact6) lineRanges_j7) Try.fact8) lineRanges_j9) lineRanges_j10) lineRanges_j11) lineRanges_j12) lineRanges_j13) lineRanges_j14) lineRanges_j15) lineRanges_j16) lineRanges_j17) lineRanges_j18) lineRanges_j19) lineRanges_j20) lineRanges_j21) lineRanges_j22) lineRanges_j23) Try.fact24) Try.fact25) lineRanges_j26) lineRanges_j27) lineRanges_j28) lineRanges_j29) lineRanges_j30) lineRanges_j31)
theorem lineRanges_named : Try.prog.funcNamed Rows.lineRangesRow.func = some 4 := by kernel_rfl
theorem lineRanges_instance : Try.f4.isInstance Try.prog Rows.lineRangesRow.origin Rows.lineRangesRow.targs := of_decide_eq_true (by kernel_rfl)
theorem lineRanges_wrapper : Try.f4.isWrapper Try.prog Rows.lineRangesRow.wrapper Rows.lineRangesRow.mainSum := by unfold Func.isWrapper; first | (rw [if_pos (by decide +kernel)]; kernel_rfl) | (rw [if_neg (by decide +kernel)]; exact ⟨rfl, rfl⟩)

set_option maxRecDepth 100000 in
theorem lineRanges_over : Rows.lineRangesRow.holds Try.pinned (OpenSpec.ofChange Rows.lineRangesSpec) :=
  OpenClaim.holds_of_wide 4 Try.f4 rfl rfl rfl rfl rfl rfl rfl ⟨rfl, rfl, rfl, rfl, rfl⟩ rfl rfl rfl rfl rfl lineRanges_named Try.func4 lineRanges_closed lineRanges_instance lineRanges_wrapper
    (fun os started H enc _ => lineRanges_lifted os started H enc)

/-- THE STATEMENT. -/
theorem lineRanges_holds : Rows.LineRangesSaid := lineRanges_over

end Go.Proofs.Ytejbpoclfjkllaa
