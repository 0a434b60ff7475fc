/- The law LineJoins: for every input the call returns true, and its arguments read as before. No conditions. -/
import Derived.Test.YtejbpoclfjkllaaCY6
import Derived.Test.YtejbpoclfjkllaaCFr
namespace Go.Proofs.Ytejbpoclfjkllaa
open Go Go.ChangeShapes Go.WideShapes Go.ChangeAt Go.RowKit

set_option maxRecDepth 100000 in
theorem lineJoins_lifted (os : Os) (started : os.Started) (H : Type) (enc : TypeId × Value → H) :
    ReturnsInHanded {} Try.checked os 11 .any (Rows.lineJoinsSpec.pre6 enc Try.prog Try.f11 Rows.lineJoinsRow.domain false) (Rows.lineJoinsSpec.post enc Try.prog Try.f11 false true false false) := by
  refine returnsInHanded_of_change (C := Try.checked) Try.own started (by kernel_rfl) Try.func11
    (ChangeSpec.witness6 (enc := enc) (C := Try.checked) false ⟨#[], #[.agg #[.int .i64 0, .slice none 0 0], .agg #[.int .i64 0, .slice none 0 0]], []⟩ 8 (by kernel_rfl) (by kernel_rfl) (by kernel_rfl) (by kernel_rfl)) ?_
  intro W base args ds gs before hval0 hW hcnd _
  have hval : ∀ (j : Nat) t v, Try.f11.params[j]? = some t → args[j]? = some v → Value.okWide Try.prog W .any base t v := hval0
  have hW' := hW
  obtain ⟨p, q, hA0, hV, rfl, hfz, hnd⟩ := hW
  have hA : DataW.TrodAll enc Try.prog W 0 (fun _ => true) true Try.f11.params.toList args.toList ds p := hA0
  rw [Try.params11] at hA hval
  obtain ⟨v0, vs0, d0, ds0, p0, q0, hargs, rfl, rfl, h0, r0⟩ := trodAll_cons hA
  obtain ⟨v1, vs1, d1, ds1, p1, q1, rfl, rfl, rfl, h1, r1⟩ := trodAll_cons r0
  obtain ⟨rfl, rfl, rfl⟩ := trodAll_nil r1
  obtain rfl : args = #[v0, v1] := by cases args; simp_all
  obtain ⟨rfl, rfl⟩ := trodVars_none hV
  obtain ⟨N0, a0, cap0, bs0, rfl, hN0, hB0, hS0, hl0, hok0⟩ := open_sys (hval 0 24 v0 rfl rfl) h0
  obtain ⟨N1, a1, cap1, bs1, rfl, hN1, hB1, hS1, hl1, hok1⟩ := open_sys (hval 1 24 v1 rfl rfl) h1
  refine (lineJoins_any W N0 a0 cap0 bs0 N1 a1 cap1 bs1 hN0 hl0 hB0 hN1 hl1 hB1).mono fun e W' ⟨he, hg⟩ => ?_
  subst he
  refine ⟨_, rfl, law_post hW' hg (by kernel_rfl) ?_ rfl rfl⟩
  intro t ht
  rw [Try.params11] at ht
  simp only [List.mem_cons, List.not_mem_nil, or_false] at ht
  rcases ht with rfl | rfl
  · exact argOk24
  · exact argOk24

/-! The row's closed facts, each by itself. -/
theorem lineJoins_j0 : (Rows.lineJoinsRow.wf (OpenSpec.ofChange Rows.lineJoinsSpec)) = true := by kernel_rfl
theorem lineJoins_j3 : (Try.f11.params.all (Try.prog.readableRec ·)) = true := by kernel_rfl
theorem lineJoins_j4 : (namedTie Try.prog Rows.lineJoinsRow.named Rows.lineJoinsSpec.vars) = true := by kernel_rfl
theorem lineJoins_j5 : ((Rows.lineJoinsRow.stops == [])) = true := by kernel_rfl
theorem lineJoins_j7 : ((Rows.lineJoinsRow.knobs == [])) = true := by kernel_rfl
theorem lineJoins_j9 : ((Rows.lineJoinsRow.inPlace == Try.prog.inPlace 11)) = true := by kernel_rfl
theorem lineJoins_j10 : ((Rows.lineJoinsRow.unfollowed == Try.prog.unfollowed 11)) = true := by kernel_rfl
theorem lineJoins_j11 : ((Rows.lineJoinsRow.recurses == Try.prog.recurses 11)) = true := by kernel_rfl
theorem lineJoins_j12 : ((Rows.lineJoinsRow.named == Try.prog.varsNamed 11)) = true := by kernel_rfl
theorem lineJoins_j13 : ((Rows.lineJoinsRow.maps == (Try.f11.params.toList ++ Rows.lineJoinsSpec.plain.varTypes Try.prog).any (Try.prog.mapsRec ·))) = true := by kernel_rfl
theorem lineJoins_j14 : ((Rows.lineJoinsRow.ifaces == (Try.f11.params.toList ++ Rows.lineJoinsSpec.plain.varTypes Try.prog).any (Try.prog.ifacesRec ·))) = true := by kernel_rfl
theorem lineJoins_j15 : ((Rows.lineJoinsRow.mapsOut == Try.prog.mapsAmong Try.f11.resultTypes.toList)) = true := by kernel_rfl
theorem lineJoins_j16 : ((Rows.lineJoinsRow.loops == (Try.f11.params.toList ++ Rows.lineJoinsSpec.plain.varTypes Try.prog).any (Try.prog.loopsFrom ·))) = true := by kernel_rfl
theorem lineJoins_j17 : ((Rows.lineJoinsRow.wideKeys == (Try.f11.params.toList ++ Rows.lineJoinsSpec.plain.varTypes Try.prog ++ Try.f11.resultTypes.toList).any (Try.prog.wideKeysFrom ·))) = true := by kernel_rfl
theorem lineJoins_j18 : (Rows.lineJoinsSpec.vars.all (Try.prog.varReadable ·)) = true := by kernel_rfl
theorem lineJoins_j19 : (Try.f11.resultTypes.all (fun t => Try.prog.readableRec t && decide (t < Try.prog.types.size))) = true := by kernel_rfl
theorem lineJoins_j20 : ((Rows.lineJoinsRow.ifacesOut == Try.f11.resultTypes.toList.any (Try.prog.ifacesRec ·))) = true := by kernel_rfl
theorem lineJoins_j21 : ((Rows.lineJoinsRow.loopsOut == Try.f11.resultTypes.toList.any (Try.prog.loopsFrom ·))) = true := by kernel_rfl
theorem lineJoins_j22 : ((Rows.lineJoinsRow.plainKeys == Try.prog.plainKeys)) = true := by rw [Try.fact22]; rfl
theorem lineJoins_j23 : (Rows.lineJoinsRow.shortTexts.isNone) = true := by kernel_rfl
theorem lineJoins_j26 : ((Rows.lineJoinsRow.lifted == Try.prog.liftsFinal)) = true := by rw [Try.fact26]; rfl
theorem lineJoins_j27 : ((Try.prog.make == some Rows.lineJoinsRow.make)) = true := by rw [Try.fact27]; rfl
theorem lineJoins_j28 : ((Rows.lineJoinsRow.kinds == (if Rows.lineJoinsRow.domain.isEmpty then [] else Try.f11.params.toList.map fun t => match Try.prog.underlying t with | some (.int k) => some k | _ => none))) = true := by kernel_rfl
theorem lineJoins_j29 : ((Rows.lineJoinsRow.pinned == Rows.lineJoinsRow.pinnedBy)) = true := by kernel_rfl
theorem lineJoins_j30 : ((Rows.lineJoinsRow.veiled == (Try.f11.params.toList ++ Rows.lineJoinsSpec.plain.varTypes Try.prog ++ Try.f11.resultTypes.toList).any (Try.prog.veiledRec ·))) = true := by kernel_rfl
theorem lineJoins_j31 : (Rows.lineJoinsRow.veiledFits Try.prog Try.f11.params.toList (Try.f11.params.toList ++ Rows.lineJoinsSpec.plain.varTypes Try.prog ++ Try.f11.resultTypes.toList)) = true := by kernel_rfl
set_option maxRecDepth 100000 in
theorem lineJoins_closed : joinedFacts Try.prog 11 Try.f11 Rows.lineJoinsSpec Rows.lineJoinsRow = true := by
  unfold joinedFacts
  exact (and2 (and2 (and2 (and2 (and2 (and2 (and2 (and2 (and2 (and2 (and2 (and2 (and2 (and2 (and2 (and2 (and2 (and2 (and2 (and2 (and2 (and2 (and2 (and2 (and2 (and2 (and2 (and2 (and2 (and2 (and2 lineJoins_j0 Try.fact1) Try.fact2) lineJoins_j3) lineJoins_j4) lineJoins_j5) Try.fact6) lineJoins_j7) Try.fact8) lineJoins_j9) lineJoins_j10) lineJoins_j11) lineJoins_j12) lineJoins_j13) lineJoins_j14) lineJoins_j15) lineJoins_j16) lineJoins_j17) lineJoins_j18) lineJoins_j19) lineJoins_j20) lineJoins_j21) lineJoins_j22) lineJoins_j23) Try.fact24) Try.fact25) lineJoins_j26) lineJoins_j27) lineJoins_j28) lineJoins_j29) lineJoins_j30) lineJoins_j31)
theorem lineJoins_named : Try.prog.funcNamed Rows.lineJoinsRow.func = some 11 := by kernel_rfl
theorem lineJoins_instance : Try.f11.isInstance Try.prog Rows.lineJoinsRow.origin Rows.lineJoinsRow.targs := of_decide_eq_true (by kernel_rfl)
theorem lineJoins_wrapper : Try.f11.isWrapper Try.prog Rows.lineJoinsRow.wrapper Rows.lineJoinsRow.mainSum := by unfold Func.isWrapper; first | (rw [if_pos (by decide +kernel)]; kernel_rfl) | (rw [if_neg (by decide +kernel)]; exact ⟨rfl, rfl⟩)

set_option maxRecDepth 100000 in
theorem lineJoins_over : Rows.lineJoinsRow.holds Try.pinned (OpenSpec.ofChange Rows.lineJoinsSpec) :=
  OpenClaim.holds_of_wide 11 Try.f11 rfl rfl rfl rfl rfl rfl rfl ⟨rfl, rfl, rfl, rfl, rfl⟩ rfl rfl rfl rfl rfl lineJoins_named Try.func11 lineJoins_closed lineJoins_instance lineJoins_wrapper
    (fun os started H enc _ => lineJoins_lifted os started H enc)

/-- THE STATEMENT. -/
theorem lineJoins_holds : Rows.LineJoinsSaid := lineJoins_over

end Go.Proofs.Ytejbpoclfjkllaa
