/- The law LineBlames: for every input the call returns true, and its arguments read as before. No conditions. -/
import Derived.Test.YtejbpoclfjkllaaCZ6
import Derived.Test.YtejbpoclfjkllaaCFr
namespace Go.Proofs.Ytejbpoclfjkllaa
open Go Go.ChangeShapes Go.WideShapes Go.ChangeAt Go.RowKit

set_option maxRecDepth 100000 in
theorem lineBlames_lifted (os : Os) (started : os.Started) (H : Type) (enc : TypeId × Value → H) :
    ReturnsInHanded {} Try.checked os 3 .any (Rows.lineBlamesSpec.pre6 enc Try.prog Try.f3 Rows.lineBlamesRow.domain false) (Rows.lineBlamesSpec.post enc Try.prog Try.f3 false true false false) := by
  refine returnsInHanded_of_change (C := Try.checked) Try.own started (by kernel_rfl) Try.func3
    (ChangeSpec.witness6 (enc := enc) (C := Try.checked) false ⟨#[], #[.agg #[.int .i64 0, .slice none 0 0]], []⟩ 8 (by kernel_rfl) (by kernel_rfl) (by kernel_rfl) (by kernel_rfl)) ?_
  intro W base args ds gs before hval0 hW hcnd _
  have hval : ∀ (j : Nat) t v, Try.f3.params[j]? = some t → args[j]? = some v → Value.okWide Try.prog W .any base t v := hval0
  have hW' := hW
  obtain ⟨p, q, hA0, hV, rfl, hfz, hnd⟩ := hW
  have hA : DataW.TrodAll enc Try.prog W 0 (fun _ => true) true Try.f3.params.toList args.toList ds p := hA0
  rw [Try.params3] at hA hval
  obtain ⟨v0, vs0, d0, ds0, p0, q0, hargs, rfl, rfl, h0, r0⟩ := trodAll_cons hA
  obtain ⟨rfl, rfl, rfl⟩ := trodAll_nil r0
  obtain rfl : args = #[v0] := by cases args; simp_all
  obtain ⟨rfl, rfl⟩ := trodVars_none hV
  obtain ⟨N0, a0, cap0, bs0, rfl, hN0, hB0, hS0, hl0, hok0⟩ := open_sys (hval 0 24 v0 rfl rfl) h0
  refine (lineBlames_any W N0 a0 cap0 bs0 hN0 hl0 hB0 hS0).mono fun e W' ⟨he, hg⟩ => ?_
  subst he
  refine ⟨_, rfl, law_post hW' hg (by kernel_rfl) ?_ rfl rfl⟩
  intro t ht
  rw [Try.params3] at ht
  simp only [List.mem_cons, List.not_mem_nil, or_false] at ht
  rcases ht with rfl
  · exact argOk24

/-! The row's closed facts, each by itself. -/
theorem lineBlames_j0 : (Rows.lineBlamesRow.wf (OpenSpec.ofChange Rows.lineBlamesSpec)) = true := by kernel_rfl
theorem lineBlames_j3 : (Try.f3.params.all (Try.prog.readableRec ·)) = true := by kernel_rfl
theorem lineBlames_j4 : (namedTie Try.prog Rows.lineBlamesRow.named Rows.lineBlamesSpec.vars) = true := by kernel_rfl
theorem lineBlames_j5 : ((Rows.lineBlamesRow.stops == [])) = true := by kernel_rfl
theorem lineBlames_j7 : ((Rows.lineBlamesRow.knobs == [])) = true := by kernel_rfl
theorem lineBlames_j9 : ((Rows.lineBlamesRow.inPlace == Try.prog.inPlace 3)) = true := by kernel_rfl
theorem lineBlames_j10 : ((Rows.lineBlamesRow.unfollowed == Try.prog.unfollowed 3)) = true := by kernel_rfl
theorem lineBlames_j11 : ((Rows.lineBlamesRow.recurses == Try.prog.recurses 3)) = true := by kernel_rfl
theorem lineBlames_j12 : ((Rows.lineBlamesRow.named == Try.prog.varsNamed 3)) = true := by kernel_rfl
theorem lineBlames_j13 : ((Rows.lineBlamesRow.maps == (Try.f3.params.toList ++ Rows.lineBlamesSpec.plain.varTypes Try.prog).any (Try.prog.mapsRec ·))) = true := by kernel_rfl
theorem lineBlames_j14 : ((Rows.lineBlamesRow.ifaces == (Try.f3.params.toList ++ Rows.lineBlamesSpec.plain.varTypes Try.prog).any (Try.prog.ifacesRec ·))) = true := by kernel_rfl
theorem lineBlames_j15 : ((Rows.lineBlamesRow.mapsOut == Try.prog.mapsAmong Try.f3.resultTypes.toList)) = true := by kernel_rfl
theorem lineBlames_j16 : ((Rows.lineBlamesRow.loops == (Try.f3.params.toList ++ Rows.lineBlamesSpec.plain.varTypes Try.prog).any (Try.prog.loopsFrom ·))) = true := by kernel_rfl
theorem lineBlames_j17 : ((Rows.lineBlamesRow.wideKeys == (Try.f3.params.toList ++ Rows.lineBlamesSpec.plain.varTypes Try.prog ++ Try.f3.resultTypes.toList).any (Try.prog.wideKeysFrom ·))) = true := by kernel_rfl
theorem lineBlames_j18 : (Rows.lineBlamesSpec.vars.all (Try.prog.varReadable ·)) = true := by kernel_rfl
theorem lineBlames_j19 : (Try.f3.resultTypes.all (fun t => Try.prog.readableRec t && decide (t < Try.prog.types.size))) = true := by kernel_rfl
theorem lineBlames_j20 : ((Rows.lineBlamesRow.ifacesOut == Try.f3.resultTypes.toList.any (Try.prog.ifacesRec ·))) = true := by kernel_rfl
theorem lineBlames_j21 : ((Rows.lineBlamesRow.loopsOut == Try.f3.resultTypes.toList.any (Try.prog.loopsFrom ·))) = true := by kernel_rfl
theorem lineBlames_j22 : ((Rows.lineBlamesRow.plainKeys == Try.prog.plainKeys)) = true := by rw [Try.fact22]; rfl
theorem lineBlames_j23 : (Rows.lineBlamesRow.shortTexts.isNone) = true := by kernel_rfl
theorem lineBlames_j26 : ((Rows.lineBlamesRow.lifted == Try.prog.liftsFinal)) = true := by rw [Try.fact26]; rfl
theorem lineBlames_j27 : ((Try.prog.make == some Rows.lineBlamesRow.make)) = true := by rw [Try.fact27]; rfl
theorem lineBlames_j28 : ((Rows.lineBlamesRow.kinds == (if Rows.lineBlamesRow.domain.isEmpty then [] else Try.f3.params.toList.map fun t => match Try.prog.underlying t with | some (.int k) => some k | _ => none))) = true := by kernel_rfl
theorem lineBlames_j29 : ((Rows.lineBlamesRow.pinned == Rows.lineBlamesRow.pinnedBy)) = true := by kernel_rfl
theorem lineBlames_j30 : ((Rows.lineBlamesRow.veiled == (Try.f3.params.toList ++ Rows.lineBlamesSpec.plain.varTypes Try.prog ++ Try.f3.resultTypes.toList).any (Try.prog.veiledRec ·))) = true := by kernel_rfl
theorem lineBlames_j31 : (Rows.lineBlamesRow.veiledFits Try.prog Try.f3.params.toList (Try.f3.params.toList ++ Rows.lineBlamesSpec.plain.varTypes Try.prog ++ Try.f3.resultTypes.toList)) = true := by kernel_rfl
set_option maxRecDepth 100000 in
theorem lineBlames_closed : joinedFacts Try.prog 3 Try.f3 Rows.lineBlamesSpec Rows.lineBlamesRow = true := by
  unfold joinedFacts
  exact (and2 (and2 (and2 (and2 (and2 (and2 (and2 (and2 (and2 (and2 (and2 (and2 (and2 (and2 (and2 (and2 (and2 (and2 (and2 (and2 (and2 (and2 (and2 (and2 (and2 (and2 (and2 (and2 (and2 (and2 (and2 lineBlames_j0 Try.fact1) Try.fact2) lineBlames_j3) lineBlames_j4) lineBlames_j5) Try.fact6) lineBlames_j7) Try.fact8) lineBlames_j9) lineBlames_j10) lineBlames_j11) lineBlames_j12) lineBlames_j13) lineBlames_j14) lineBlames_j15) lineBlames_j16) lineBlames_j17) lineBlames_j18) lineBlames_j19) lineBlames_j20) lineBlames_j21) lineBlames_j22) lineBlames_j23) Try.fact24) Try.fact25) lineBlames_j26) lineBlames_j27) lineBlames_j28) lineBlames_j29) lineBlames_j30) lineBlames_j31)
theorem lineBlames_named : Try.prog.funcNamed Rows.lineBlamesRow.func = some 3 := by kernel_rfl
theorem lineBlames_instance : Try.f3.isInstance Try.prog Rows.lineBlamesRow.origin Rows.lineBlamesRow.targs := of_decide_eq_true (by kernel_rfl)
theorem lineBlames_wrapper : Try.f3.isWrapper Try.prog Rows.lineBlamesRow.wrapper Rows.lineBlamesRow.mainSum := by unfold Func.isWrapper; first | (rw [if_pos (by decide +kernel)]; kernel_rfl) | (rw [if_neg (by decide +kernel)]; exact ⟨rfl, rfl⟩)

set_option maxRecDepth 100000 in
theorem lineBlames_over : Rows.lineBlamesRow.holds Try.pinned (OpenSpec.ofChange Rows.lineBlamesSpec) :=
  OpenClaim.holds_of_wide 3 Try.f3 rfl rfl rfl rfl rfl rfl rfl ⟨rfl, rfl, rfl, rfl, rfl⟩ rfl rfl rfl rfl rfl lineBlames_named Try.func3 lineBlames_closed lineBlames_instance lineBlames_wrapper
    (fun os started H enc _ => lineBlames_lifted os started H enc)

/-- THE STATEMENT. -/
theorem lineBlames_holds : Rows.LineBlamesSaid := lineBlames_over

end Go.Proofs.Ytejbpoclfjkllaa
