/- The law LineClosed: for every input the call returns true, and its arguments read as before. No conditions. -/
import Derived.Test.YtejbpoclfjkllaaCS7
import Derived.Test.YtejbpoclfjkllaaCFr
namespace Go.Proofs.Ytejbpoclfjkllaa
open Go Go.ChangeShapes Go.WideShapes Go.ChangeAt Go.RowKit

set_option maxRecDepth 100000 in
theorem lineClosed_lifted (os : Os) (started : os.Started) (H : Type) (enc : TypeId × Value → H) :
    ReturnsInHanded {} Try.checked os 24 .any (Rows.lineClosedSpec.pre6 enc Try.prog Try.f24 Rows.lineClosedRow.domain false) (Rows.lineClosedSpec.post enc Try.prog Try.f24 false true false false) := by
  refine returnsInHanded_of_change (C := Try.checked) Try.own started (by kernel_rfl) Try.func24
    (ChangeSpec.witness6 (enc := enc) (C := Try.checked) false ⟨#[], #[.agg #[.int .i64 0, .slice none 0 0]], []⟩ 8 (by kernel_rfl) (by kernel_rfl) (by kernel_rfl) (by kernel_rfl)) ?_
  intro W base args ds gs before hval0 hW hcnd _
  have hval : ∀ (j : Nat) t v, Try.f24.params[j]? = some t → args[j]? = some v → Value.okWide Try.prog W .any base t v := hval0
  have hW' := hW
  obtain ⟨p, q, hA0, hV, rfl, hfz, hnd⟩ := hW
  have hA : DataW.TrodAll enc Try.prog W 0 (fun _ => true) true Try.f24.params.toList args.toList ds p := hA0
  rw [Try.params24] at hA hval
  obtain ⟨v0, vs0, d0, ds0, p0, q0, hargs, rfl, rfl, h0, r0⟩ := trodAll_cons hA
  obtain ⟨rfl, rfl, rfl⟩ := trodAll_nil r0
  obtain rfl : args = #[v0] := by cases args; simp_all
  obtain ⟨rfl, rfl⟩ := trodVars_none hV
  obtain ⟨N0, a0, cap0, bs0, rfl, hN0, hB0, hS0, hl0, hok0⟩ := open_sys (hval 0 24 v0 rfl rfl) h0
  refine (lineClosed_any W N0 a0 cap0 bs0 hN0 hl0 hB0).mono fun e W' ⟨he, hg⟩ => ?_
  subst he
  refine ⟨_, rfl, law_post hW' hg (by kernel_rfl) ?_ rfl rfl⟩
  intro t ht
  rw [Try.params24] at ht
  simp only [List.mem_cons, List.not_mem_nil, or_false] at ht
  rcases ht with rfl
  · exact argOk24

/-! The row's closed facts, each by itself. -/
theorem lineClosed_j0 : (Rows.lineClosedRow.wf (OpenSpec.ofChange Rows.lineClosedSpec)) = true := by kernel_rfl
theorem lineClosed_j3 : (Try.f24.params.all (Try.prog.readableRec ·)) = true := by kernel_rfl
theorem lineClosed_j4 : (namedTie Try.prog Rows.lineClosedRow.named Rows.lineClosedSpec.vars) = true := by kernel_rfl
theorem lineClosed_j5 : ((Rows.lineClosedRow.stops == [])) = true := by kernel_rfl
theorem lineClosed_j7 : ((Rows.lineClosedRow.knobs == [])) = true := by kernel_rfl
theorem lineClosed_j9 : ((Rows.lineClosedRow.inPlace == Try.prog.inPlace 24)) = true := by kernel_rfl
theorem lineClosed_j10 : ((Rows.lineClosedRow.unfollowed == Try.prog.unfollowed 24)) = true := by kernel_rfl
theorem lineClosed_j11 : ((Rows.lineClosedRow.recurses == Try.prog.recurses 24)) = true := by kernel_rfl
theorem lineClosed_j12 : ((Rows.lineClosedRow.named == Try.prog.varsNamed 24)) = true := by kernel_rfl
theorem lineClosed_j13 : ((Rows.lineClosedRow.maps == (Try.f24.params.toList ++ Rows.lineClosedSpec.plain.varTypes Try.prog).any (Try.prog.mapsRec ·))) = true := by kernel_rfl
theorem lineClosed_j14 : ((Rows.lineClosedRow.ifaces == (Try.f24.params.toList ++ Rows.lineClosedSpec.plain.varTypes Try.prog).any (Try.prog.ifacesRec ·))) = true := by kernel_rfl
theorem lineClosed_j15 : ((Rows.lineClosedRow.mapsOut == Try.prog.mapsAmong Try.f24.resultTypes.toList)) = true := by kernel_rfl
theorem lineClosed_j16 : ((Rows.lineClosedRow.loops == (Try.f24.params.toList ++ Rows.lineClosedSpec.plain.varTypes Try.prog).any (Try.prog.loopsFrom ·))) = true := by kernel_rfl
theorem lineClosed_j17 : ((Rows.lineClosedRow.wideKeys == (Try.f24.params.toList ++ Rows.lineClosedSpec.plain.varTypes Try.prog ++ Try.f24.resultTypes.toList).any (Try.prog.wideKeysFrom ·))) = true := by kernel_rfl
theorem lineClosed_j18 : (Rows.lineClosedSpec.vars.all (Try.prog.varReadable ·)) = true := by kernel_rfl
theorem lineClosed_j19 : (Try.f24.resultTypes.all (fun t => Try.prog.readableRec t && decide (t < Try.prog.types.size))) = true := by kernel_rfl
theorem lineClosed_j20 : ((Rows.lineClosedRow.ifacesOut == Try.f24.resultTypes.toList.any (Try.prog.ifacesRec ·))) = true := by kernel_rfl
theorem lineClosed_j21 : ((Rows.lineClosedRow.loopsOut == Try.f24.resultTypes.toList.any (Try.prog.loopsFrom ·))) = true := by kernel_rfl
theorem lineClosed_j22 : ((Rows.lineClosedRow.plainKeys == Try.prog.plainKeys)) = true := by rw [Try.fact22]; rfl
theorem lineClosed_j23 : (Rows.lineClosedRow.shortTexts.isNone) = true := by kernel_rfl
theorem lineClosed_j26 : ((Rows.lineClosedRow.lifted == Try.prog.liftsFinal)) = true := by rw [Try.fact26]; rfl
theorem lineClosed_j27 : ((Try.prog.make == some Rows.lineClosedRow.make)) = true := by rw [Try.fact27]; rfl
theorem lineClosed_j28 : ((Rows.lineClosedRow.kinds == (if Rows.lineClosedRow.domain.isEmpty then [] else Try.f24.params.toList.map fun t => match Try.prog.underlying t with | some (.int k) => some k | _ => none))) = true := by kernel_rfl
theorem lineClosed_j29 : ((Rows.lineClosedRow.pinned == Rows.lineClosedRow.pinnedBy)) = true := by kernel_rfl
theorem lineClosed_j30 : ((Rows.lineClosedRow.veiled == (Try.f24.params.toList ++ Rows.lineClosedSpec.plain.varTypes Try.prog ++ Try.f24.resultTypes.toList).any (Try.prog.veiledRec ·))) = true := by kernel_rfl
theorem lineClosed_j31 : (Rows.lineClosedRow.veiledFits Try.prog Try.f24.params.toList (Try.f24.params.toList ++ Rows.lineClosedSpec.plain.varTypes Try.prog ++ Try.f24.resultTypes.toList)) = true := by kernel_rfl
set_option maxRecDepth 100000 in
theorem lineClosed_closed : joinedFacts Try.prog 24 Try.f24 Rows.lineClosedSpec Rows.lineClosedRow = true := by
  unfold joinedFacts
  exact (and2 (and2 (and2 (and2 (and2 (and2 (and2 (and2 (and2 (and2 (and2 (and2 (and2 (and2 (and2 (and2 (and2 (and2 (and2 (and2 (and2 (and2 (and2 (and2 (and2 (and2 (and2 (and2 (and2 (and2 (and2 lineClosed_j0 Try.fact1) Try.fact2) lineClosed_j3) lineClosed_j4) lineClosed_j5) Try.fact6) lineClosed_j7) Try.fact8) lineClosed_j9) lineClosed_j10) lineClosed_j11) lineClosed_j12) lineClosed_j13) lineClosed_j14) lineClosed_j15) lineClosed_j16) lineClosed_j17) lineClosed_j18) lineClosed_j19) lineClosed_j20) lineClosed_j21) lineClosed_j22) lineClosed_j23) Try.fact24) Try.fact25) lineClosed_j26) lineClosed_j27) lineClosed_j28) lineClosed_j29) lineClosed_j30) lineClosed_j31)
theorem lineClosed_named : Try.prog.funcNamed Rows.lineClosedRow.func = some 24 := by kernel_rfl
theorem lineClosed_instance : Try.f24.isInstance Try.prog Rows.lineClosedRow.origin Rows.lineClosedRow.targs := of_decide_eq_true (by kernel_rfl)
theorem lineClosed_wrapper : Try.f24.isWrapper Try.prog Rows.lineClosedRow.wrapper Rows.lineClosedRow.mainSum := by unfold Func.isWrapper; first | (rw [if_pos (by decide +kernel)]; kernel_rfl) | (rw [if_neg (by decide +kernel)]; exact ⟨rfl, rfl⟩)

set_option maxRecDepth 100000 in
theorem lineClosed_over : Rows.lineClosedRow.holds Try.pinned (OpenSpec.ofChange Rows.lineClosedSpec) :=
  OpenClaim.holds_of_wide 24 Try.f24 rfl rfl rfl rfl rfl rfl rfl ⟨rfl, rfl, rfl, rfl, rfl⟩ rfl rfl rfl rfl rfl lineClosed_named Try.func24 lineClosed_closed lineClosed_instance lineClosed_wrapper
    (fun os started H enc _ => lineClosed_lifted os started H enc)

/-- THE STATEMENT. -/
theorem lineClosed_holds : Rows.LineClosedSaid := lineClosed_over

end Go.Proofs.Ytejbpoclfjkllaa
