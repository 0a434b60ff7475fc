/- The law LineChecks: for every input the call returns true, and its arguments read as before. No conditions. -/
import Derived.Test.YtejbpoclfjkllaaCZ1
import Derived.Test.YtejbpoclfjkllaaCFr
namespace Go.Proofs.Ytejbpoclfjkllaa
open Go Go.ChangeShapes Go.WideShapes Go.ChangeAt Go.RowKit

set_option maxRecDepth 100000 in
theorem lineChecks_lifted (os : Os) (started : os.Started) (H : Type) (enc : TypeId × Value → H) :
    ReturnsInHanded {} Try.checked os 9 .any (Rows.lineChecksSpec.pre6 enc Try.prog Try.f9 Rows.lineChecksRow.domain false) (Rows.lineChecksSpec.post enc Try.prog Try.f9 false true false false) := by
  refine returnsInHanded_of_change (C := Try.checked) Try.own started (by kernel_rfl) Try.func9
    (ChangeSpec.witness6 (enc := enc) (C := Try.checked) false ⟨#[], #[.agg #[.int .i64 0, .slice none 0 0], .slice none 0 0], []⟩ 8 (by kernel_rfl) (by kernel_rfl) (by kernel_rfl) (by kernel_rfl)) ?_
  intro W base args ds gs before hval0 hW hcnd _
  have hval : ∀ (j : Nat) t v, Try.f9.params[j]? = some t → args[j]? = some v → Value.okWide Try.prog W .any base t v := hval0
  have hW' := hW
  obtain ⟨p, q, hA0, hV, rfl, hfz, hnd⟩ := hW
  have hA : DataW.TrodAll enc Try.prog W 0 (fun _ => true) true Try.f9.params.toList args.toList ds p := hA0
  rw [Try.params9] at hA hval
  obtain ⟨v0, vs0, d0, ds0, p0, q0, hargs, rfl, rfl, h0, r0⟩ := trodAll_cons hA
  obtain ⟨v1, vs1, d1, ds1, p1, q1, rfl, rfl, rfl, h1, r1⟩ := trodAll_cons r0
  obtain ⟨rfl, rfl, rfl⟩ := trodAll_nil r1
  obtain rfl : args = #[v0, v1] := by cases args; simp_all
  obtain ⟨rfl, rfl⟩ := trodVars_none hV
  obtain ⟨N0, a0, cap0, bs0, rfl, hN0, hB0, hS0, hl0, hok0⟩ := open_sys (hval 0 24 v0 rfl rfl) h0
  obtain ⟨a1, cap1, y1, rfl, hY1, hZ1, hm1, hyo1⟩ := open_list (hval 1 27 v1 rfl rfl) h1
  refine (lineChecks_any W N0 a0 cap0 bs0 a1 cap1 y1 hN0 hl0 hm1 hB0 hY1).mono fun e W' ⟨he, hg⟩ => ?_
  subst he
  refine ⟨_, rfl, law_post hW' hg (by kernel_rfl) ?_ rfl rfl⟩
  intro t ht
  rw [Try.params9] at ht
  simp only [List.mem_cons, List.not_mem_nil, or_false] at ht
  rcases ht with rfl | rfl
  · exact argOk24
  · exact argOk27

/-! The row's closed facts, each by itself. -/
theorem lineChecks_j0 : (Rows.lineChecksRow.wf (OpenSpec.ofChange Rows.lineChecksSpec)) = true := by kernel_rfl
theorem lineChecks_j3 : (Try.f9.params.all (Try.prog.readableRec ·)) = true := by kernel_rfl
theorem lineChecks_j4 : (namedTie Try.prog Rows.lineChecksRow.named Rows.lineChecksSpec.vars) = true := by kernel_rfl
theorem lineChecks_j5 : ((Rows.lineChecksRow.stops == [])) = true := by kernel_rfl
theorem lineChecks_j7 : ((Rows.lineChecksRow.knobs == [])) = true := by kernel_rfl
theorem lineChecks_j9 : ((Rows.lineChecksRow.inPlace == Try.prog.inPlace 9)) = true := by kernel_rfl
theorem lineChecks_j10 : ((Rows.lineChecksRow.unfollowed == Try.prog.unfollowed 9)) = true := by kernel_rfl
theorem lineChecks_j11 : ((Rows.lineChecksRow.recurses == Try.prog.recurses 9)) = true := by kernel_rfl
theorem lineChecks_j12 : ((Rows.lineChecksRow.named == Try.prog.varsNamed 9)) = true := by kernel_rfl
theorem lineChecks_j13 : ((Rows.lineChecksRow.maps == (Try.f9.params.toList ++ Rows.lineChecksSpec.plain.varTypes Try.prog).any (Try.prog.mapsRec ·))) = true := by kernel_rfl
theorem lineChecks_j14 : ((Rows.lineChecksRow.ifaces == (Try.f9.params.toList ++ Rows.lineChecksSpec.plain.varTypes Try.prog).any (Try.prog.ifacesRec ·))) = true := by kernel_rfl
theorem lineChecks_j15 : ((Rows.lineChecksRow.mapsOut == Try.prog.mapsAmong Try.f9.resultTypes.toList)) = true := by kernel_rfl
theorem lineChecks_j16 : ((Rows.lineChecksRow.loops == (Try.f9.params.toList ++ Rows.lineChecksSpec.plain.varTypes Try.prog).any (Try.prog.loopsFrom ·))) = true := by kernel_rfl
theorem lineChecks_j17 : ((Rows.lineChecksRow.wideKeys == (Try.f9.params.toList ++ Rows.lineChecksSpec.plain.varTypes Try.prog ++ Try.f9.resultTypes.toList).any (Try.prog.wideKeysFrom ·))) = true := by kernel_rfl
theorem lineChecks_j18 : (Rows.lineChecksSpec.vars.all (Try.prog.varReadable ·)) = true := by kernel_rfl
theorem lineChecks_j19 : (Try.f9.resultTypes.all (fun t => Try.prog.readableRec t && decide (t < Try.prog.types.size))) = true := by kernel_rfl
theorem lineChecks_j20 : ((Rows.lineChecksRow.ifacesOut == Try.f9.resultTypes.toList.any (Try.prog.ifacesRec ·))) = true := by kernel_rfl
theorem lineChecks_j21 : ((Rows.lineChecksRow.loopsOut == Try.f9.resultTypes.toList.any (Try.prog.loopsFrom ·))) = true := by kernel_rfl
theorem lineChecks_j22 : ((Rows.lineChecksRow.plainKeys == Try.prog.plainKeys)) = true := by rw [Try.fact22]; rfl
theorem lineChecks_j23 : (Rows.lineChecksRow.shortTexts.isNone) = true := by kernel_rfl
theorem lineChecks_j26 : ((Rows.lineChecksRow.lifted == Try.prog.liftsFinal)) = true := by rw [Try.fact26]; rfl
theorem lineChecks_j27 : ((Try.prog.make == some Rows.lineChecksRow.make)) = true := by rw [Try.fact27]; rfl
theorem lineChecks_j28 : ((Rows.lineChecksRow.kinds == (if Rows.lineChecksRow.domain.isEmpty then [] else Try.f9.params.toList.map fun t => match Try.prog.underlying t with | some (.int k) => some k | _ => none))) = true := by kernel_rfl
theorem lineChecks_j29 : ((Rows.lineChecksRow.pinned == Rows.lineChecksRow.pinnedBy)) = true := by kernel_rfl
theorem lineChecks_j30 : ((Rows.lineChecksRow.veiled == (Try.f9.params.toList ++ Rows.lineChecksSpec.plain.varTypes Try.prog ++ Try.f9.resultTypes.toList).any (Try.prog.veiledRec ·))) = true := by kernel_rfl
theorem lineChecks_j31 : (Rows.lineChecksRow.veiledFits Try.prog Try.f9.params.toList (Try.f9.params.toList ++ Rows.lineChecksSpec.plain.varTypes Try.prog ++ Try.f9.resultTypes.toList)) = true := by kernel_rfl
set_option maxRecDepth 100000 in
theorem lineChecks_closed : joinedFacts Try.prog 9 Try.f9 Rows.lineChecksSpec Rows.lineChecksRow = true := by
  unfold joinedFacts
  exact (and2 (and2 (and2 (and2 (and2 (and2 (and2 (and2 (and2 (and2 (and2 (and2 (and2 (and2 (and2 (and2 (and2 (and2 (and2 (and2 (and2 (and2 (and2 (and2 (and2 (and2 (and2 (and2 (and2 (and2 (and2 lineChecks_j0 Try.fact1) Try.fact2) lineChecks_j3) lineChecks_j4) lineChecks_j5) Try.fact6) lineChecks_j7) Try.fact8) lineChecks_j9) lineChecks_j10) lineChecks_j11) lineChecks_j12) lineChecks_j13) lineChecks_j14) lineChecks_j15) lineChecks_j16) lineChecks_j17) lineChecks_j18) lineChecks_j19) lineChecks_j20) lineChecks_j21) lineChecks_j22) lineChecks_j23) Try.fact24) Try.fact25) lineChecks_j26) lineChecks_j27) lineChecks_j28) lineChecks_j29) lineChecks_j30) lineChecks_j31)
theorem lineChecks_named : Try.prog.funcNamed Rows.lineChecksRow.func = some 9 := by kernel_rfl
theorem lineChecks_instance : Try.f9.isInstance Try.prog Rows.lineChecksRow.origin Rows.lineChecksRow.targs := of_decide_eq_true (by kernel_rfl)
theorem lineChecks_wrapper : Try.f9.isWrapper Try.prog Rows.lineChecksRow.wrapper Rows.lineChecksRow.mainSum := by unfold Func.isWrapper; first | (rw [if_pos (by decide +kernel)]; kernel_rfl) | (rw [if_neg (by decide +kernel)]; exact ⟨rfl, rfl⟩)

set_option maxRecDepth 100000 in
theorem lineChecks_over : Rows.lineChecksRow.holds Try.pinned (OpenSpec.ofChange Rows.lineChecksSpec) :=
  OpenClaim.holds_of_wide 9 Try.f9 rfl rfl rfl rfl rfl rfl rfl ⟨rfl, rfl, rfl, rfl, rfl⟩ rfl rfl rfl rfl rfl lineChecks_named Try.func9 lineChecks_closed lineChecks_instance lineChecks_wrapper
    (fun os started H enc _ => lineChecks_lifted os started H enc)

/-- THE STATEMENT. -/
theorem lineChecks_holds : Rows.LineChecksSaid := lineChecks_over

end Go.Proofs.Ytejbpoclfjkllaa
