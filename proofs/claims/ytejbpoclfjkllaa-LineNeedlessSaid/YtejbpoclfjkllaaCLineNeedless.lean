/- The law LineNeedless: for every input the call returns true, and its arguments read as before. No conditions. -/
import Derived.Test.YtejbpoclfjkllaaCZ7
import Derived.Test.YtejbpoclfjkllaaCFr
namespace Go.Proofs.Ytejbpoclfjkllaa
open Go Go.ChangeShapes Go.WideShapes Go.ChangeAt Go.RowKit

set_option maxRecDepth 100000 in
theorem lineNeedless_lifted (os : Os) (started : os.Started) (H : Type) (enc : TypeId × Value → H) :
    ReturnsInHanded {} Try.checked os 5 .any (Rows.lineNeedlessSpec.pre6 enc Try.prog Try.f5 Rows.lineNeedlessRow.domain false) (Rows.lineNeedlessSpec.post enc Try.prog Try.f5 false true false false) := by
  refine returnsInHanded_of_change (C := Try.checked) Try.own started (by kernel_rfl) Try.func5
    (ChangeSpec.witness6 (enc := enc) (C := Try.checked) false ⟨#[], #[.agg #[.int .i64 0, .slice none 0 0]], []⟩ 8 (by kernel_rfl) (by kernel_rfl) (by kernel_rfl) (by kernel_rfl)) ?_
  intro W base args ds gs before hval0 hW hcnd _
  have hval : ∀ (j : Nat) t v, Try.f5.params[j]? = some t → args[j]? = some v → Value.okWide Try.prog W .any base t v := hval0
  have hW' := hW
  obtain ⟨p, q, hA0, hV, rfl, hfz, hnd⟩ := hW
  have hA : DataW.TrodAll enc Try.prog W 0 (fun _ => true) true Try.f5.params.toList args.toList ds p := hA0
  rw [Try.params5] at hA hval
  obtain ⟨v0, vs0, d0, ds0, p0, q0, hargs, rfl, rfl, h0, r0⟩ := trodAll_cons hA
  obtain ⟨rfl, rfl, rfl⟩ := trodAll_nil r0
  obtain rfl : args = #[v0] := by cases args; simp_all
  obtain ⟨rfl, rfl⟩ := trodVars_none hV
  obtain ⟨N0, a0, cap0, bs0, rfl, hN0, hB0, hS0, hl0, hok0⟩ := open_sys (hval 0 24 v0 rfl rfl) h0
  refine (lineNeedless_any W N0 a0 cap0 bs0 hN0 hl0 hB0).mono fun e W' ⟨he, hg⟩ => ?_
  subst he
  refine ⟨_, rfl, law_post hW' hg (by kernel_rfl) ?_ rfl rfl⟩
  intro t ht
  rw [Try.params5] at ht
  simp only [List.mem_cons, List.not_mem_nil, or_false] at ht
  rcases ht with rfl
  · exact argOk24

/-! The row's closed facts, each by itself. -/
theorem lineNeedless_j0 : (Rows.lineNeedlessRow.wf (OpenSpec.ofChange Rows.lineNeedlessSpec)) = true := by kernel_rfl
theorem lineNeedless_j3 : (Try.f5.params.all (Try.prog.readableRec ·)) = true := by kernel_rfl
theorem lineNeedless_j4 : (namedTie Try.prog Rows.lineNeedlessRow.named Rows.lineNeedlessSpec.vars) = true := by kernel_rfl
theorem lineNeedless_j5 : ((Rows.lineNeedlessRow.stops == [])) = true := by kernel_rfl
theorem lineNeedless_j7 : ((Rows.lineNeedlessRow.knobs == [])) = true := by kernel_rfl
theorem lineNeedless_j9 : ((Rows.lineNeedlessRow.inPlace == Try.prog.inPlace 5)) = true := by kernel_rfl
theorem lineNeedless_j10 : ((Rows.lineNeedlessRow.unfollowed == Try.prog.unfollowed 5)) = true := by kernel_rfl
theorem lineNeedless_j11 : ((Rows.lineNeedlessRow.recurses == Try.prog.recurses 5)) = true := by kernel_rfl
theorem lineNeedless_j12 : ((Rows.lineNeedlessRow.named == Try.prog.varsNamed 5)) = true := by kernel_rfl
theorem lineNeedless_j13 : ((Rows.lineNeedlessRow.maps == (Try.f5.params.toList ++ Rows.lineNeedlessSpec.plain.varTypes Try.prog).any (Try.prog.mapsRec ·))) = true := by kernel_rfl
theorem lineNeedless_j14 : ((Rows.lineNeedlessRow.ifaces == (Try.f5.params.toList ++ Rows.lineNeedlessSpec.plain.varTypes Try.prog).any (Try.prog.ifacesRec ·))) = true := by kernel_rfl
theorem lineNeedless_j15 : ((Rows.lineNeedlessRow.mapsOut == Try.prog.mapsAmong Try.f5.resultTypes.toList)) = true := by kernel_rfl
theorem lineNeedless_j16 : ((Rows.lineNeedlessRow.loops == (Try.f5.params.toList ++ Rows.lineNeedlessSpec.plain.varTypes Try.prog).any (Try.prog.loopsFrom ·))) = true := by kernel_rfl
theorem lineNeedless_j17 : ((Rows.lineNeedlessRow.wideKeys == (Try.f5.params.toList ++ Rows.lineNeedlessSpec.plain.varTypes Try.prog ++ Try.f5.resultTypes.toList).any (Try.prog.wideKeysFrom ·))) = true := by kernel_rfl
theorem lineNeedless_j18 : (Rows.lineNeedlessSpec.vars.all (Try.prog.varReadable ·)) = true := by kernel_rfl
theorem lineNeedless_j19 : (Try.f5.resultTypes.all (fun t => Try.prog.readableRec t && decide (t < Try.prog.types.size))) = true := by kernel_rfl
theorem lineNeedless_j20 : ((Rows.lineNeedlessRow.ifacesOut == Try.f5.resultTypes.toList.any (Try.prog.ifacesRec ·))) = true := by kernel_rfl
theorem lineNeedless_j21 : ((Rows.lineNeedlessRow.loopsOut == Try.f5.resultTypes.toList.any (Try.prog.loopsFrom ·))) = true := by kernel_rfl
theorem lineNeedless_j22 : ((Rows.lineNeedlessRow.plainKeys == Try.prog.plainKeys)) = true := by rw [Try.fact22]; rfl
theorem lineNeedless_j23 : (Rows.lineNeedlessRow.shortTexts.isNone) = true := by kernel_rfl
theorem lineNeedless_j26 : ((Rows.lineNeedlessRow.lifted == Try.prog.liftsFinal)) = true := by rw [Try.fact26]; rfl
theorem lineNeedless_j27 : ((Try.prog.make == some Rows.lineNeedlessRow.make)) = true := by rw [Try.fact27]; rfl
theorem lineNeedless_j28 : ((Rows.lineNeedlessRow.kinds == (if Rows.lineNeedlessRow.domain.isEmpty then [] else Try.f5.params.toList.map fun t => match Try.prog.underlying t with | some (.int k) => some k | _ => none))) = true := by kernel_rfl
theorem lineNeedless_j29 : ((Rows.lineNeedlessRow.pinned == Rows.lineNeedlessRow.pinnedBy)) = true := by kernel_rfl
theorem lineNeedless_j30 : ((Rows.lineNeedlessRow.veiled == (Try.f5.params.toList ++ Rows.lineNeedlessSpec.plain.varTypes Try.prog ++ Try.f5.resultTypes.toList).any (Try.prog.veiledRec ·))) = true := by kernel_rfl
theorem lineNeedless_j31 : (Rows.lineNeedlessRow.veiledFits Try.prog Try.f5.params.toList (Try.f5.params.toList ++ Rows.lineNeedlessSpec.plain.varTypes Try.prog ++ Try.f5.resultTypes.toList)) = true := by kernel_rfl
set_option maxRecDepth 100000 in
theorem lineNeedless_closed : joinedFacts Try.prog 5 Try.f5 Rows.lineNeedlessSpec Rows.lineNeedlessRow = true := by
  unfold joinedFacts
  exact (and2 (and2 (and2 (and2 (and2 (and2 (and2 (and2 (and2 (and2 (and2 (and2 (and2 (and2 (and2 (and2 (and2 (and2 (and2 (and2 (and2 (and2 (and2 (and2 (and2 (and2 (and2 (and2 (and2 (and2 (and2 lineNeedless_j0 Try.fact1) Try.fact2) lineNeedless_j3) lineNeedless_j4) lineNeedless_j5) Try.fact6) lineNeedless_j7) Try.fact8) lineNeedless_j9) lineNeedless_j10) lineNeedless_j11) lineNeedless_j12) lineNeedless_j13) lineNeedless_j14) lineNeedless_j15) lineNeedless_j16) lineNeedless_j17) lineNeedless_j18) lineNeedless_j19) lineNeedless_j20) lineNeedless_j21) lineNeedless_j22) lineNeedless_j23) Try.fact24) Try.fact25) lineNeedless_j26) lineNeedless_j27) lineNeedless_j28) lineNeedless_j29) lineNeedless_j30) lineNeedless_j31)
theorem lineNeedless_named : Try.prog.funcNamed Rows.lineNeedlessRow.func = some 5 := by kernel_rfl
theorem lineNeedless_instance : Try.f5.isInstance Try.prog Rows.lineNeedlessRow.origin Rows.lineNeedlessRow.targs := of_decide_eq_true (by kernel_rfl)
theorem lineNeedless_wrapper : Try.f5.isWrapper Try.prog Rows.lineNeedlessRow.wrapper Rows.lineNeedlessRow.mainSum := by unfold Func.isWrapper; first | (rw [if_pos (by decide +kernel)]; kernel_rfl) | (rw [if_neg (by decide +kernel)]; exact ⟨rfl, rfl⟩)

set_option maxRecDepth 100000 in
theorem lineNeedless_over : Rows.lineNeedlessRow.holds Try.pinned (OpenSpec.ofChange Rows.lineNeedlessSpec) :=
  OpenClaim.holds_of_wide 5 Try.f5 rfl rfl rfl rfl rfl rfl rfl ⟨rfl, rfl, rfl, rfl, rfl⟩ rfl rfl rfl rfl rfl lineNeedless_named Try.func5 lineNeedless_closed lineNeedless_instance lineNeedless_wrapper
    (fun os started H enc _ => lineNeedless_lifted os started H enc)

/-- THE STATEMENT. -/
theorem lineNeedless_holds : Rows.LineNeedlessSaid := lineNeedless_over

end Go.Proofs.Ytejbpoclfjkllaa
