/- The law LineValues: for every input the call returns true, and its arguments read as before. No conditions. -/
import Derived.Test.YtejbpoclfjkllaaCZj
import Derived.Test.YtejbpoclfjkllaaCFr
namespace Go.Proofs.Ytejbpoclfjkllaa
open Go Go.ChangeShapes Go.WideShapes Go.ChangeAt Go.RowKit

set_option maxRecDepth 100000 in
theorem lineValues_lifted (os : Os) (started : os.Started) (H : Type) (enc : TypeId × Value → H) :
    ReturnsInHanded {} Try.checked os 13 .any (Rows.lineValuesSpec.pre6 enc Try.prog Try.f13 Rows.lineValuesRow.domain false) (Rows.lineValuesSpec.post enc Try.prog Try.f13 false true false false) := by
  refine returnsInHanded_of_change (C := Try.checked) Try.own started (by kernel_rfl) Try.func13
    (ChangeSpec.witness6 (enc := enc) (C := Try.checked) false ⟨#[], #[.agg #[.int .i64 0, .slice none 0 0], .int .i64 0, .int .i64 0], []⟩ 8 (by kernel_rfl) (by kernel_rfl) (by kernel_rfl) (by kernel_rfl)) ?_
  intro W base args ds gs before hval0 hW hcnd _
  have hval : ∀ (j : Nat) t v, Try.f13.params[j]? = some t → args[j]? = some v → Value.okWide Try.prog W .any base t v := hval0
  have hW' := hW
  obtain ⟨p, q, hA0, hV, rfl, hfz, hnd⟩ := hW
  have hA : DataW.TrodAll enc Try.prog W 0 (fun _ => true) true Try.f13.params.toList args.toList ds p := hA0
  rw [Try.params13] at hA hval
  obtain ⟨v0, vs0, d0, ds0, p0, q0, hargs, rfl, rfl, h0, r0⟩ := trodAll_cons hA
  obtain ⟨v1, vs1, d1, ds1, p1, q1, rfl, rfl, rfl, h1, r1⟩ := trodAll_cons r0
  obtain ⟨v2, vs2, d2, ds2, p2, q2, rfl, rfl, rfl, h2, r2⟩ := trodAll_cons r1
  obtain ⟨rfl, rfl, rfl⟩ := trodAll_nil r2
  obtain rfl : args = #[v0, v1, v2] := by cases args; simp_all
  obtain ⟨rfl, rfl⟩ := trodVars_none hV
  obtain ⟨N0, a0, cap0, bs0, rfl, hN0, hB0, hS0, hl0, hok0⟩ := open_sys (hval 0 24 v0 rfl rfl) h0
  obtain ⟨n1, rfl, hn1⟩ := open_num (hval 1 3 v1 rfl rfl) h1
  obtain ⟨n2, rfl, hn2⟩ := open_num (hval 2 3 v2 rfl rfl) h2
  refine (lineValues_any W N0 a0 cap0 bs0 n1 n2 hN0 hl0 hB0).mono fun e W' ⟨he, hg⟩ => ?_
  subst he
  refine ⟨_, rfl, law_post hW' hg (by kernel_rfl) ?_ rfl rfl⟩
  intro t ht
  rw [Try.params13] at ht
  simp only [List.mem_cons, List.not_mem_nil, or_false] at ht
  rcases ht with rfl | rfl | rfl
  · exact argOk24
  · exact argOk3
  · exact argOk3

/-! The row's closed facts, each by itself. -/
theorem lineValues_j0 : (Rows.lineValuesRow.wf (OpenSpec.ofChange Rows.lineValuesSpec)) = true := by kernel_rfl
theorem lineValues_j3 : (Try.f13.params.all (Try.prog.readableRec ·)) = true := by kernel_rfl
theorem lineValues_j4 : (namedTie Try.prog Rows.lineValuesRow.named Rows.lineValuesSpec.vars) = true := by kernel_rfl
theorem lineValues_j5 : ((Rows.lineValuesRow.stops == [])) = true := by kernel_rfl
theorem lineValues_j7 : ((Rows.lineValuesRow.knobs == [])) = true := by kernel_rfl
theorem lineValues_j9 : ((Rows.lineValuesRow.inPlace == Try.prog.inPlace 13)) = true := by kernel_rfl
theorem lineValues_j10 : ((Rows.lineValuesRow.unfollowed == Try.prog.unfollowed 13)) = true := by kernel_rfl
theorem lineValues_j11 : ((Rows.lineValuesRow.recurses == Try.prog.recurses 13)) = true := by kernel_rfl
theorem lineValues_j12 : ((Rows.lineValuesRow.named == Try.prog.varsNamed 13)) = true := by kernel_rfl
theorem lineValues_j13 : ((Rows.lineValuesRow.maps == (Try.f13.params.toList ++ Rows.lineValuesSpec.plain.varTypes Try.prog).any (Try.prog.mapsRec ·))) = true := by kernel_rfl
theorem lineValues_j14 : ((Rows.lineValuesRow.ifaces == (Try.f13.params.toList ++ Rows.lineValuesSpec.plain.varTypes Try.prog).any (Try.prog.ifacesRec ·))) = true := by kernel_rfl
theorem lineValues_j15 : ((Rows.lineValuesRow.mapsOut == Try.prog.mapsAmong Try.f13.resultTypes.toList)) = true := by kernel_rfl
theorem lineValues_j16 : ((Rows.lineValuesRow.loops == (Try.f13.params.toList ++ Rows.lineValuesSpec.plain.varTypes Try.prog).any (Try.prog.loopsFrom ·))) = true := by kernel_rfl
theorem lineValues_j17 : ((Rows.lineValuesRow.wideKeys == (Try.f13.params.toList ++ Rows.lineValuesSpec.plain.varTypes Try.prog ++ Try.f13.resultTypes.toList).any (Try.prog.wideKeysFrom ·))) = true := by kernel_rfl
theorem lineValues_j18 : (Rows.lineValuesSpec.vars.all (Try.prog.varReadable ·)) = true := by kernel_rfl
theorem lineValues_j19 : (Try.f13.resultTypes.all (fun t => Try.prog.readableRec t && decide (t < Try.prog.types.size))) = true := by kernel_rfl
theorem lineValues_j20 : ((Rows.lineValuesRow.ifacesOut == Try.f13.resultTypes.toList.any (Try.prog.ifacesRec ·))) = true := by kernel_rfl
theorem lineValues_j21 : ((Rows.lineValuesRow.loopsOut == Try.f13.resultTypes.toList.any (Try.prog.loopsFrom ·))) = true := by kernel_rfl
theorem lineValues_j22 : ((Rows.lineValuesRow.plainKeys == Try.prog.plainKeys)) = true := by rw [Try.fact22]; rfl
theorem lineValues_j23 : (Rows.lineValuesRow.shortTexts.isNone) = true := by kernel_rfl
theorem lineValues_j26 : ((Rows.lineValuesRow.lifted == Try.prog.liftsFinal)) = true := by rw [Try.fact26]; rfl
theorem lineValues_j27 : ((Try.prog.make == some Rows.lineValuesRow.make)) = true := by rw [Try.fact27]; rfl
theorem lineValues_j28 : ((Rows.lineValuesRow.kinds == (if Rows.lineValuesRow.domain.isEmpty then [] else Try.f13.params.toList.map fun t => match Try.prog.underlying t with | some (.int k) => some k | _ => none))) = true := by kernel_rfl
theorem lineValues_j29 : ((Rows.lineValuesRow.pinned == Rows.lineValuesRow.pinnedBy)) = true := by kernel_rfl
theorem lineValues_j30 : ((Rows.lineValuesRow.veiled == (Try.f13.params.toList ++ Rows.lineValuesSpec.plain.varTypes Try.prog ++ Try.f13.resultTypes.toList).any (Try.prog.veiledRec ·))) = true := by kernel_rfl
theorem lineValues_j31 : (Rows.lineValuesRow.veiledFits Try.prog Try.f13.params.toList (Try.f13.params.toList ++ Rows.lineValuesSpec.plain.varTypes Try.prog ++ Try.f13.resultTypes.toList)) = true := by kernel_rfl
set_option maxRecDepth 100000 in
theorem lineValues_closed : joinedFacts Try.prog 13 Try.f13 Rows.lineValuesSpec Rows.lineValuesRow = true := by
  unfold joinedFacts
  exact (and2 (and2 (and2 (and2 (and2 (and2 (and2 (and2 (and2 (and2 (and2 (and2 (and2 (and2 (and2 (and2 (and2 (and2 (and2 (and2 (and2 (and2 (and2 (and2 (and2 (and2 (and2 (and2 (and2 (and2 (and2 lineValues_j0 Try.fact1) Try.fact2) lineValues_j3) lineValues_j4) lineValues_j5) Try.fact6) lineValues_j7) Try.fact8) lineValues_j9) lineValues_j10) lineValues_j11) lineValues_j12) lineValues_j13) lineValues_j14) lineValues_j15) lineValues_j16) lineValues_j17) lineValues_j18) lineValues_j19) lineValues_j20) lineValues_j21) lineValues_j22) lineValues_j23) Try.fact24) Try.fact25) lineValues_j26) lineValues_j27) lineValues_j28) lineValues_j29) lineValues_j30) lineValues_j31)
theorem lineValues_named : Try.prog.funcNamed Rows.lineValuesRow.func = some 13 := by kernel_rfl
theorem lineValues_instance : Try.f13.isInstance Try.prog Rows.lineValuesRow.origin Rows.lineValuesRow.targs := of_decide_eq_true (by kernel_rfl)
theorem lineValues_wrapper : Try.f13.isWrapper Try.prog Rows.lineValuesRow.wrapper Rows.lineValuesRow.mainSum := by unfold Func.isWrapper; first | (rw [if_pos (by decide +kernel)]; kernel_rfl) | (rw [if_neg (by decide +kernel)]; exact ⟨rfl, rfl⟩)

set_option maxRecDepth 100000 in
theorem lineValues_over : Rows.lineValuesRow.holds Try.pinned (OpenSpec.ofChange Rows.lineValuesSpec) :=
  OpenClaim.holds_of_wide 13 Try.f13 rfl rfl rfl rfl rfl rfl rfl ⟨rfl, rfl, rfl, rfl, rfl⟩ rfl rfl rfl rfl rfl lineValues_named Try.func13 lineValues_closed lineValues_instance lineValues_wrapper
    (fun os started H enc _ => lineValues_lifted os started H enc)

/-- THE STATEMENT. -/
theorem lineValues_holds : Rows.LineValuesSaid := lineValues_over

end Go.Proofs.Ytejbpoclfjkllaa
