/- The law LineCircles: for every input the call returns true, and its arguments read as before. No conditions. -/
import Derived.Test.YtejbpoclfjkllaaCZv
import Derived.Test.YtejbpoclfjkllaaCFr
namespace Go.Proofs.Ytejbpoclfjkllaa
open Go Go.ChangeShapes Go.WideShapes Go.ChangeAt Go.RowKit

set_option maxRecDepth 100000 in
theorem lineCircles_lifted (os : Os) (started : os.Started) (H : Type) (enc : TypeId × Value → H) :
    ReturnsInHanded {} Try.checked os 19 .any (Rows.lineCirclesSpec.pre6 enc Try.prog Try.f19 Rows.lineCirclesRow.domain false) (Rows.lineCirclesSpec.post enc Try.prog Try.f19 false true false false) := by
  refine returnsInHanded_of_change (C := Try.checked) Try.own started (by kernel_rfl) Try.func19
    (ChangeSpec.witness6 (enc := enc) (C := Try.checked) false ⟨#[], #[.agg #[.int .i64 0, .slice none 0 0], .slice none 0 0], []⟩ 8 (by kernel_rfl) (by kernel_rfl) (by kernel_rfl) (by kernel_rfl)) ?_
  intro W base args ds gs before hval0 hW hcnd _
  have hval : ∀ (j : Nat) t v, Try.f19.params[j]? = some t → args[j]? = some v → Value.okWide Try.prog W .any base t v := hval0
  have hW' := hW
  obtain ⟨p, q, hA0, hV, rfl, hfz, hnd⟩ := hW
  have hA : DataW.TrodAll enc Try.prog W 0 (fun _ => true) true Try.f19.params.toList args.toList ds p := hA0
  rw [Try.params19] at hA hval
  obtain ⟨v0, vs0, d0, ds0, p0, q0, hargs, rfl, rfl, h0, r0⟩ := trodAll_cons hA
  obtain ⟨v1, vs1, d1, ds1, p1, q1, rfl, rfl, rfl, h1, r1⟩ := trodAll_cons r0
  obtain ⟨rfl, rfl, rfl⟩ := trodAll_nil r1
  obtain rfl : args = #[v0, v1] := by cases args; simp_all
  obtain ⟨rfl, rfl⟩ := trodVars_none hV
  obtain ⟨N0, a0, cap0, bs0, rfl, hN0, hB0, hS0, hl0, hok0⟩ := open_sys (hval 0 24 v0 rfl rfl) h0
  obtain ⟨a1, cap1, y1, rfl, hY1, hZ1, hm1, hyo1⟩ := open_list (hval 1 27 v1 rfl rfl) h1
  refine (lineCircles_any W N0 a0 cap0 bs0 a1 cap1 y1 hN0 hl0 hB0 hm1 hY1).mono fun e W' ⟨he, hg⟩ => ?_
  subst he
  refine ⟨_, rfl, law_post hW' hg (by kernel_rfl) ?_ rfl rfl⟩
  intro t ht
  rw [Try.params19] at ht
  simp only [List.mem_cons, List.not_mem_nil, or_false] at ht
  rcases ht with rfl | rfl
  · exact argOk24
  · exact argOk27

/-! The row's closed facts, each by itself. -/
theorem lineCircles_j0 : (Rows.lineCirclesRow.wf (OpenSpec.ofChange Rows.lineCirclesSpec)) = true := by kernel_rfl
theorem lineCircles_j3 : (Try.f19.params.all (Try.prog.readableRec ·)) = true := by kernel_rfl
theorem lineCircles_j4 : (namedTie Try.prog Rows.lineCirclesRow.named Rows.lineCirclesSpec.vars) = true := by kernel_rfl
theorem lineCircles_j5 : ((Rows.lineCirclesRow.stops == [])) = true := by kernel_rfl
theorem lineCircles_j7 : ((Rows.lineCirclesRow.knobs == [])) = true := by kernel_rfl
theorem lineCircles_j9 : ((Rows.lineCirclesRow.inPlace == Try.prog.inPlace 19)) = true := by kernel_rfl
theorem lineCircles_j10 : ((Rows.lineCirclesRow.unfollowed == Try.prog.unfollowed 19)) = true := by kernel_rfl
theorem lineCircles_j11 : ((Rows.lineCirclesRow.recurses == Try.prog.recurses 19)) = true := by kernel_rfl
theorem lineCircles_j12 : ((Rows.lineCirclesRow.named == Try.prog.varsNamed 19)) = true := by kernel_rfl
theorem lineCircles_j13 : ((Rows.lineCirclesRow.maps == (Try.f19.params.toList ++ Rows.lineCirclesSpec.plain.varTypes Try.prog).any (Try.prog.mapsRec ·))) = true := by kernel_rfl
theorem lineCircles_j14 : ((Rows.lineCirclesRow.ifaces == (Try.f19.params.toList ++ Rows.lineCirclesSpec.plain.varTypes Try.prog).any (Try.prog.ifacesRec ·))) = true := by kernel_rfl
theorem lineCircles_j15 : ((Rows.lineCirclesRow.mapsOut == Try.prog.mapsAmong Try.f19.resultTypes.toList)) = true := by kernel_rfl
theorem lineCircles_j16 : ((Rows.lineCirclesRow.loops == (Try.f19.params.toList ++ Rows.lineCirclesSpec.plain.varTypes Try.prog).any (Try.prog.loopsFrom ·))) = true := by kernel_rfl
theorem lineCircles_j17 : ((Rows.lineCirclesRow.wideKeys == (Try.f19.params.toList ++ Rows.lineCirclesSpec.plain.varTypes Try.prog ++ Try.f19.resultTypes.toList).any (Try.prog.wideKeysFrom ·))) = true := by kernel_rfl
theorem lineCircles_j18 : (Rows.lineCirclesSpec.vars.all (Try.prog.varReadable ·)) = true := by kernel_rfl
theorem lineCircles_j19 : (Try.f19.resultTypes.all (fun t => Try.prog.readableRec t && decide (t < Try.prog.types.size))) = true := by kernel_rfl
theorem lineCircles_j20 : ((Rows.lineCirclesRow.ifacesOut == Try.f19.resultTypes.toList.any (Try.prog.ifacesRec ·))) = true := by kernel_rfl
theorem lineCircles_j21 : ((Rows.lineCirclesRow.loopsOut == Try.f19.resultTypes.toList.any (Try.prog.loopsFrom ·))) = true := by kernel_rfl
theorem lineCircles_j22 : ((Rows.lineCirclesRow.plainKeys == Try.prog.plainKeys)) = true := by rw [Try.fact22]; rfl
theorem lineCircles_j23 : (Rows.lineCirclesRow.shortTexts.isNone) = true := by kernel_rfl
theorem lineCircles_j26 : ((Rows.lineCirclesRow.lifted == Try.prog.liftsFinal)) = true := by rw [Try.fact26]; rfl
theorem lineCircles_j27 : ((Try.prog.make == some Rows.lineCirclesRow.make)) = true := by rw [Try.fact27]; rfl
theorem lineCircles_j28 : ((Rows.lineCirclesRow.kinds == (if Rows.lineCirclesRow.domain.isEmpty then [] else Try.f19.params.toList.map fun t => match Try.prog.underlying t with | some (.int k) => some k | _ => none))) = true := by kernel_rfl
theorem lineCircles_j29 : ((Rows.lineCirclesRow.pinned == Rows.lineCirclesRow.pinnedBy)) = true := by kernel_rfl
theorem lineCircles_j30 : ((Rows.lineCirclesRow.veiled == (Try.f19.params.toList ++ Rows.lineCirclesSpec.plain.varTypes Try.prog ++ Try.f19.resultTypes.toList).any (Try.prog.veiledRec ·))) = true := by kernel_rfl
theorem lineCircles_j31 : (Rows.lineCirclesRow.veiledFits Try.prog Try.f19.params.toList (Try.f19.params.toList ++ Rows.lineCirclesSpec.plain.varTypes Try.prog ++ Try.f19.resultTypes.toList)) = true := by kernel_rfl
set_option maxRecDepth 100000 in
theorem lineCircles_closed : joinedFacts Try.prog 19 Try.f19 Rows.lineCirclesSpec Rows.lineCirclesRow = true := by
  unfold joinedFacts
  exact (and2 (and2 (and2 (and2 (and2 (and2 (and2 (and2 (and2 (and2 (and2 (and2 (and2 (and2 (and2 (and2 (and2 (and2 (and2 (and2 (and2 (and2 (and2 (and2 (and2 (and2 (and2 (and2 (and2 (and2 (and2 lineCircles_j0 Try.fact1) Try.fact2) lineCircles_j3) lineCircles_j4) lineCircles_j5) Try.fact6) lineCircles_j7) Try.fact8) lineCircles_j9) lineCircles_j10) lineCircles_j11) lineCircles_j12) lineCircles_j13) lineCircles_j14) lineCircles_j15) lineCircles_j16) lineCircles_j17) lineCircles_j18) lineCircles_j19) lineCircles_j20) lineCircles_j21) lineCircles_j22) lineCircles_j23) Try.fact24) Try.fact25) lineCircles_j26) lineCircles_j27) lineCircles_j28) lineCircles_j29) lineCircles_j30) lineCircles_j31)
theorem lineCircles_named : Try.prog.funcNamed Rows.lineCirclesRow.func = some 19 := by kernel_rfl
theorem lineCircles_instance : Try.f19.isInstance Try.prog Rows.lineCirclesRow.origin Rows.lineCirclesRow.targs := of_decide_eq_true (by kernel_rfl)
theorem lineCircles_wrapper : Try.f19.isWrapper Try.prog Rows.lineCirclesRow.wrapper Rows.lineCirclesRow.mainSum := by unfold Func.isWrapper; first | (rw [if_pos (by decide +kernel)]; kernel_rfl) | (rw [if_neg (by decide +kernel)]; exact ⟨rfl, rfl⟩)

set_option maxRecDepth 100000 in
theorem lineCircles_over : Rows.lineCirclesRow.holds Try.pinned (OpenSpec.ofChange Rows.lineCirclesSpec) :=
  OpenClaim.holds_of_wide 19 Try.f19 rfl rfl rfl rfl rfl rfl rfl ⟨rfl, rfl, rfl, rfl, rfl⟩ rfl rfl rfl rfl rfl lineCircles_named Try.func19 lineCircles_closed lineCircles_instance lineCircles_wrapper
    (fun os started H enc _ => lineCircles_lifted os started H enc)

/-- THE STATEMENT. -/
theorem lineCircles_holds : Rows.LineCirclesSaid := lineCircles_over

end Go.Proofs.Ytejbpoclfjkllaa
