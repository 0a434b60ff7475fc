/- The law LineAttained: for every input the call returns true, and its arguments read as before. No conditions. -/
import Derived.Test.YtejbpoclfjkllaaCZ3
import Derived.Test.YtejbpoclfjkllaaCFr
namespace Go.Proofs.Ytejbpoclfjkllaa
open Go Go.ChangeShapes Go.WideShapes Go.ChangeAt Go.RowKit

set_option maxRecDepth 100000 in
theorem lineAttained_lifted (os : Os) (started : os.Started) (H : Type) (enc : TypeId × Value → H) :
    ReturnsInHanded {} Try.checked os 10 .any (Rows.lineAttainedSpec.pre6 enc Try.prog Try.f10 Rows.lineAttainedRow.domain false) (Rows.lineAttainedSpec.post enc Try.prog Try.f10 false true false false) := by
  refine returnsInHanded_of_change (C := Try.checked) Try.own started (by kernel_rfl) Try.func10
    (ChangeSpec.witness6 (enc := enc) (C := Try.checked) false ⟨#[], #[.agg #[.int .i64 0, .slice none 0 0], .int .i64 0, .int .i64 0], []⟩ 8 (by kernel_rfl) (by kernel_rfl) (by kernel_rfl) (by kernel_rfl)) ?_
  intro W base args ds gs before hval0 hW hcnd _
  have hval : ∀ (j : Nat) t v, Try.f10.params[j]? = some t → args[j]? = some v → Value.okWide Try.prog W .any base t v := hval0
  have hW' := hW
  obtain ⟨p, q, hA0, hV, rfl, hfz, hnd⟩ := hW
  have hA : DataW.TrodAll enc Try.prog W 0 (fun _ => true) true Try.f10.params.toList args.toList ds p := hA0
  rw [Try.params10] at hA hval
  obtain ⟨v0, vs0, d0, ds0, p0, q0, hargs, rfl, rfl, h0, r0⟩ := trodAll_cons hA
  obtain ⟨v1, vs1, d1, ds1, p1, q1, rfl, rfl, rfl, h1, r1⟩ := trodAll_cons r0
  obtain ⟨v2, vs2, d2, ds2, p2, q2, rfl, rfl, rfl, h2, r2⟩ := trodAll_cons r1
  obtain ⟨rfl, rfl, rfl⟩ := trodAll_nil r2
  obtain rfl : args = #[v0, v1, v2] := by cases args; simp_all
  obtain ⟨rfl, rfl⟩ := trodVars_none hV
  obtain ⟨N0, a0, cap0, bs0, rfl, hN0, hB0, hS0, hl0, hok0⟩ := open_sys (hval 0 24 v0 rfl rfl) h0
  obtain ⟨n1, rfl, hn1⟩ := open_num (hval 1 3 v1 rfl rfl) h1
  obtain ⟨n2, rfl, hn2⟩ := open_num (hval 2 3 v2 rfl rfl) h2
  refine (lineAttained_any W N0 a0 cap0 bs0 n1 n2 hN0 hl0 hB0).mono fun e W' ⟨he, hg⟩ => ?_
  subst he
  refine ⟨_, rfl, law_post hW' hg (by kernel_rfl) ?_ rfl rfl⟩
  intro t ht
  rw [Try.params10] at ht
  simp only [List.mem_cons, List.not_mem_nil, or_false] at ht
  rcases ht with rfl | rfl | rfl
  · exact argOk24
  · exact argOk3
  · exact argOk3

/-! The row's closed facts, each by itself. -/
theorem lineAttained_j0 : (Rows.lineAttainedRow.wf (OpenSpec.ofChange Rows.lineAttainedSpec)) = true := by kernel_rfl
theorem lineAttained_j3 : (Try.f10.params.all (Try.prog.readableRec ·)) = true := by kernel_rfl
theorem lineAttained_j4 : (namedTie Try.prog Rows.lineAttainedRow.named Rows.lineAttainedSpec.vars) = true := by kernel_rfl
theorem lineAttained_j5 : ((Rows.lineAttainedRow.stops == [])) = true := by kernel_rfl
theorem lineAttained_j7 : ((Rows.lineAttainedRow.knobs == [])) = true := by kernel_rfl
theorem lineAttained_j9 : ((Rows.lineAttainedRow.inPlace == Try.prog.inPlace 10)) = true := by kernel_rfl
theorem lineAttained_j10 : ((Rows.lineAttainedRow.unfollowed == Try.prog.unfollowed 10)) = true := by kernel_rfl
theorem lineAttained_j11 : ((Rows.lineAttainedRow.recurses == Try.prog.recurses 10)) = true := by kernel_rfl
theorem lineAttained_j12 : ((Rows.lineAttainedRow.named == Try.prog.varsNamed 10)) = true := by kernel_rfl
theorem lineAttained_j13 : ((Rows.lineAttainedRow.maps == (Try.f10.params.toList ++ Rows.lineAttainedSpec.plain.varTypes Try.prog).any (Try.prog.mapsRec ·))) = true := by kernel_rfl
theorem lineAttained_j14 : ((Rows.lineAttainedRow.ifaces == (Try.f10.params.toList ++ Rows.lineAttainedSpec.plain.varTypes Try.prog).any (Try.prog.ifacesRec ·))) = true := by kernel_rfl
theorem lineAttained_j15 : ((Rows.lineAttainedRow.mapsOut == Try.prog.mapsAmong Try.f10.resultTypes.toList)) = true := by kernel_rfl
theorem lineAttained_j16 : ((Rows.lineAttainedRow.loops == (Try.f10.params.toList ++ Rows.lineAttainedSpec.plain.varTypes Try.prog).any (Try.prog.loopsFrom ·))) = true := by kernel_rfl
theorem lineAttained_j17 : ((Rows.lineAttainedRow.wideKeys == (Try.f10.params.toList ++ Rows.lineAttainedSpec.plain.varTypes Try.prog ++ Try.f10.resultTypes.toList).any (Try.prog.wideKeysFrom ·))) = true := by kernel_rfl
theorem lineAttained_j18 : (Rows.lineAttainedSpec.vars.all (Try.prog.varReadable ·)) = true := by kernel_rfl
theorem lineAttained_j19 : (Try.f10.resultTypes.all (fun t => Try.prog.readableRec t && decide (t < Try.prog.types.size))) = true := by kernel_rfl
theorem lineAttained_j20 : ((Rows.lineAttainedRow.ifacesOut == Try.f10.resultTypes.toList.any (Try.prog.ifacesRec ·))) = true := by kernel_rfl
theorem lineAttained_j21 : ((Rows.lineAttainedRow.loopsOut == Try.f10.resultTypes.toList.any (Try.prog.loopsFrom ·))) = true := by kernel_rfl
theorem lineAttained_j22 : ((Rows.lineAttainedRow.plainKeys == Try.prog.plainKeys)) = true := by rw [Try.fact22]; rfl
theorem lineAttained_j23 : (Rows.lineAttainedRow.shortTexts.isNone) = true := by kernel_rfl
theorem lineAttained_j26 : ((Rows.lineAttainedRow.lifted == Try.prog.liftsFinal)) = true := by rw [Try.fact26]; rfl
theorem lineAttained_j27 : ((Try.prog.make == some Rows.lineAttainedRow.make)) = true := by rw [Try.fact27]; rfl
theorem lineAttained_j28 : ((Rows.lineAttainedRow.kinds == (if Rows.lineAttainedRow.domain.isEmpty then [] else Try.f10.params.toList.map fun t => match Try.prog.underlying t with | some (.int k) => some k | _ => none))) = true := by kernel_rfl
theorem lineAttained_j29 : ((Rows.lineAttainedRow.pinned == Rows.lineAttainedRow.pinnedBy)) = true := by kernel_rfl
theorem lineAttained_j30 : ((Rows.lineAttainedRow.veiled == (Try.f10.params.toList ++ Rows.lineAttainedSpec.plain.varTypes Try.prog ++ Try.f10.resultTypes.toList).any (Try.prog.veiledRec ·))) = true := by kernel_rfl
theorem lineAttained_j31 : (Rows.lineAttainedRow.veiledFits Try.prog Try.f10.params.toList (Try.f10.params.toList ++ Rows.lineAttainedSpec.plain.varTypes Try.prog ++ Try.f10.resultTypes.toList)) = true := by kernel_rfl
set_option maxRecDepth 100000 in
theorem lineAttained_closed : joinedFacts Try.prog 10 Try.f10 Rows.lineAttainedSpec Rows.lineAttainedRow = true := by
  unfold joinedFacts
  exact (and2 (and2 (and2 (and2 (and2 (and2 (and2 (and2 (and2 (and2 (and2 (and2 (and2 (and2 (and2 (and2 (and2 (and2 (and2 (and2 (and2 (and2 (and2 (and2 (and2 (and2 (and2 (and2 (and2 (and2 (and2 lineAttained_j0 Try.fact1) Try.fact2) lineAttained_j3) lineAttained_j4) lineAttained_j5) Try.fact6) lineAttained_j7) Try.fact8) lineAttained_j9) lineAttained_j10) lineAttained_j11) lineAttained_j12) lineAttained_j13) lineAttained_j14) lineAttained_j15) lineAttained_j16) lineAttained_j17) lineAttained_j18) lineAttained_j19) lineAttained_j20) lineAttained_j21) lineAttained_j22) lineAttained_j23) Try.fact24) Try.fact25) lineAttained_j26) lineAttained_j27) lineAttained_j28) lineAttained_j29) lineAttained_j30) lineAttained_j31)
theorem lineAttained_named : Try.prog.funcNamed Rows.lineAttainedRow.func = some 10 := by kernel_rfl
theorem lineAttained_instance : Try.f10.isInstance Try.prog Rows.lineAttainedRow.origin Rows.lineAttainedRow.targs := of_decide_eq_true (by kernel_rfl)
theorem lineAttained_wrapper : Try.f10.isWrapper Try.prog Rows.lineAttainedRow.wrapper Rows.lineAttainedRow.mainSum := by unfold Func.isWrapper; first | (rw [if_pos (by decide +kernel)]; kernel_rfl) | (rw [if_neg (by decide +kernel)]; exact ⟨rfl, rfl⟩)

set_option maxRecDepth 100000 in
theorem lineAttained_over : Rows.lineAttainedRow.holds Try.pinned (OpenSpec.ofChange Rows.lineAttainedSpec) :=
  OpenClaim.holds_of_wide 10 Try.f10 rfl rfl rfl rfl rfl rfl rfl ⟨rfl, rfl, rfl, rfl, rfl⟩ rfl rfl rfl rfl rfl lineAttained_named Try.func10 lineAttained_closed lineAttained_instance lineAttained_wrapper
    (fun os started H enc _ => lineAttained_lifted os started H enc)

/-- THE STATEMENT. -/
theorem lineAttained_holds : Rows.LineAttainedSaid := lineAttained_over

end Go.Proofs.Ytejbpoclfjkllaa
