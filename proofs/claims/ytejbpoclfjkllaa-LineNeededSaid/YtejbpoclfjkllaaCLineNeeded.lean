/- The law LineNeeded: for every input the call returns true, and its arguments read as before. No conditions. -/
import Derived.Test.YtejbpoclfjkllaaCZe
import Derived.Test.YtejbpoclfjkllaaCFr
namespace Go.Proofs.Ytejbpoclfjkllaa
open Go Go.ChangeShapes Go.WideShapes Go.ChangeAt Go.RowKit

set_option maxRecDepth 100000 in
theorem lineNeeded_lifted (os : Os) (started : os.Started) (H : Type) (enc : TypeId × Value → H) :
    ReturnsInHanded {} Try.checked os 8 .any (Rows.lineNeededSpec.pre6 enc Try.prog Try.f8 Rows.lineNeededRow.domain false) (Rows.lineNeededSpec.post enc Try.prog Try.f8 false true false false) := by
  refine returnsInHanded_of_change (C := Try.checked) Try.own started (by kernel_rfl) Try.func8
    (ChangeSpec.witness6 (enc := enc) (C := Try.checked) false ⟨#[], #[.agg #[.int .i64 0, .slice none 0 0], .int .u8 0], []⟩ 8 (by kernel_rfl) (by kernel_rfl) (by kernel_rfl) (by kernel_rfl)) ?_
  intro W base args ds gs before hval0 hW hcnd _
  have hval : ∀ (j : Nat) t v, Try.f8.params[j]? = some t → args[j]? = some v → Value.okWide Try.prog W .any base t v := hval0
  have hW' := hW
  obtain ⟨p, q, hA0, hV, rfl, hfz, hnd⟩ := hW
  have hA : DataW.TrodAll enc Try.prog W 0 (fun _ => true) true Try.f8.params.toList args.toList ds p := hA0
  rw [Try.params8] at hA hval
  obtain ⟨v0, vs0, d0, ds0, p0, q0, hargs, rfl, rfl, h0, r0⟩ := trodAll_cons hA
  obtain ⟨v1, vs1, d1, ds1, p1, q1, rfl, rfl, rfl, h1, r1⟩ := trodAll_cons r0
  obtain ⟨rfl, rfl, rfl⟩ := trodAll_nil r1
  obtain rfl : args = #[v0, v1] := by cases args; simp_all
  obtain ⟨rfl, rfl⟩ := trodVars_none hV
  obtain ⟨N0, a0, cap0, bs0, rfl, hN0, hB0, hS0, hl0, hok0⟩ := open_sys (hval 0 24 v0 rfl rfl) h0
  obtain ⟨n1, rfl, hn1⟩ := open_byte (hval 1 5 v1 rfl rfl) h1
  refine (lineNeeded_any W N0 a0 cap0 bs0 n1 hN0 hl0 hB0 hn1).mono fun e W' ⟨he, hg⟩ => ?_
  subst he
  refine ⟨_, rfl, law_post hW' hg (by kernel_rfl) ?_ rfl rfl⟩
  intro t ht
  rw [Try.params8] at ht
  simp only [List.mem_cons, List.not_mem_nil, or_false] at ht
  rcases ht with rfl | rfl
  · exact argOk24
  · exact argOk5

/-! The row's closed facts, each by itself. -/
theorem lineNeeded_j0 : (Rows.lineNeededRow.wf (OpenSpec.ofChange Rows.lineNeededSpec)) = true := by kernel_rfl
theorem lineNeeded_j3 : (Try.f8.params.all (Try.prog.readableRec ·)) = true := by kernel_rfl
theorem lineNeeded_j4 : (namedTie Try.prog Rows.lineNeededRow.named Rows.lineNeededSpec.vars) = true := by kernel_rfl
theorem lineNeeded_j5 : ((Rows.lineNeededRow.stops == [])) = true := by kernel_rfl
theorem lineNeeded_j7 : ((Rows.lineNeededRow.knobs == [])) = true := by kernel_rfl
theorem lineNeeded_j9 : ((Rows.lineNeededRow.inPlace == Try.prog.inPlace 8)) = true := by kernel_rfl
theorem lineNeeded_j10 : ((Rows.lineNeededRow.unfollowed == Try.prog.unfollowed 8)) = true := by kernel_rfl
theorem lineNeeded_j11 : ((Rows.lineNeededRow.recurses == Try.prog.recurses 8)) = true := by kernel_rfl
theorem lineNeeded_j12 : ((Rows.lineNeededRow.named == Try.prog.varsNamed 8)) = true := by kernel_rfl
theorem lineNeeded_j13 : ((Rows.lineNeededRow.maps == (Try.f8.params.toList ++ Rows.lineNeededSpec.plain.varTypes Try.prog).any (Try.prog.mapsRec ·))) = true := by kernel_rfl
theorem lineNeeded_j14 : ((Rows.lineNeededRow.ifaces == (Try.f8.params.toList ++ Rows.lineNeededSpec.plain.varTypes Try.prog).any (Try.prog.ifacesRec ·))) = true := by kernel_rfl
theorem lineNeeded_j15 : ((Rows.lineNeededRow.mapsOut == Try.prog.mapsAmong Try.f8.resultTypes.toList)) = true := by kernel_rfl
theorem lineNeeded_j16 : ((Rows.lineNeededRow.loops == (Try.f8.params.toList ++ Rows.lineNeededSpec.plain.varTypes Try.prog).any (Try.prog.loopsFrom ·))) = true := by kernel_rfl
theorem lineNeeded_j17 : ((Rows.lineNeededRow.wideKeys == (Try.f8.params.toList ++ Rows.lineNeededSpec.plain.varTypes Try.prog ++ Try.f8.resultTypes.toList).any (Try.prog.wideKeysFrom ·))) = true := by kernel_rfl
theorem lineNeeded_j18 : (Rows.lineNeededSpec.vars.all (Try.prog.varReadable ·)) = true := by kernel_rfl
theorem lineNeeded_j19 : (Try.f8.resultTypes.all (fun t => Try.prog.readableRec t && decide (t < Try.prog.types.size))) = true := by kernel_rfl
theorem lineNeeded_j20 : ((Rows.lineNeededRow.ifacesOut == Try.f8.resultTypes.toList.any (Try.prog.ifacesRec ·))) = true := by kernel_rfl
theorem lineNeeded_j21 : ((Rows.lineNeededRow.loopsOut == Try.f8.resultTypes.toList.any (Try.prog.loopsFrom ·))) = true := by kernel_rfl
theorem lineNeeded_j22 : ((Rows.lineNeededRow.plainKeys == Try.prog.plainKeys)) = true := by rw [Try.fact22]; rfl
theorem lineNeeded_j23 : (Rows.lineNeededRow.shortTexts.isNone) = true := by kernel_rfl
theorem lineNeeded_j26 : ((Rows.lineNeededRow.lifted == Try.prog.liftsFinal)) = true := by rw [Try.fact26]; rfl
theorem lineNeeded_j27 : ((Try.prog.make == some Rows.lineNeededRow.make)) = true := by rw [Try.fact27]; rfl
theorem lineNeeded_j28 : ((Rows.lineNeededRow.kinds == (if Rows.lineNeededRow.domain.isEmpty then [] else Try.f8.params.toList.map fun t => match Try.prog.underlying t with | some (.int k) => some k | _ => none))) = true := by kernel_rfl
theorem lineNeeded_j29 : ((Rows.lineNeededRow.pinned == Rows.lineNeededRow.pinnedBy)) = true := by kernel_rfl
theorem lineNeeded_j30 : ((Rows.lineNeededRow.veiled == (Try.f8.params.toList ++ Rows.lineNeededSpec.plain.varTypes Try.prog ++ Try.f8.resultTypes.toList).any (Try.prog.veiledRec ·))) = true := by kernel_rfl
theorem lineNeeded_j31 : (Rows.lineNeededRow.veiledFits Try.prog Try.f8.params.toList (Try.f8.params.toList ++ Rows.lineNeededSpec.plain.varTypes Try.prog ++ Try.f8.resultTypes.toList)) = true := by kernel_rfl
set_option maxRecDepth 100000 in
theorem lineNeeded_closed : joinedFacts Try.prog 8 Try.f8 Rows.lineNeededSpec Rows.lineNeededRow = true := by
  unfold joinedFacts
  exact (and2 (and2 (and2 (and2 (and2 (and2 (and2 (and2 (and2 (and2 (and2 (and2 (and2 (and2 (and2 (and2 (and2 (and2 (and2 (and2 (and2 (and2 (and2 (and2 (and2 (and2 (and2 (and2 (and2 (and2 (and2 lineNeeded_j0 Try.fact1) Try.fact2) lineNeeded_j3) lineNeeded_j4) lineNeeded_j5) Try.fact6) lineNeeded_j7) Try.fact8) lineNeeded_j9) lineNeeded_j10) lineNeeded_j11) lineNeeded_j12) lineNeeded_j13) lineNeeded_j14) lineNeeded_j15) lineNeeded_j16) lineNeeded_j17) lineNeeded_j18) lineNeeded_j19) lineNeeded_j20) lineNeeded_j21) lineNeeded_j22) lineNeeded_j23) Try.fact24) Try.fact25) lineNeeded_j26) lineNeeded_j27) lineNeeded_j28) lineNeeded_j29) lineNeeded_j30) lineNeeded_j31)
theorem lineNeeded_named : Try.prog.funcNamed Rows.lineNeededRow.func = some 8 := by kernel_rfl
theorem lineNeeded_instance : Try.f8.isInstance Try.prog Rows.lineNeededRow.origin Rows.lineNeededRow.targs := of_decide_eq_true (by kernel_rfl)
theorem lineNeeded_wrapper : Try.f8.isWrapper Try.prog Rows.lineNeededRow.wrapper Rows.lineNeededRow.mainSum := by unfold Func.isWrapper; first | (rw [if_pos (by decide +kernel)]; kernel_rfl) | (rw [if_neg (by decide +kernel)]; exact ⟨rfl, rfl⟩)

set_option maxRecDepth 100000 in
theorem lineNeeded_over : Rows.lineNeededRow.holds Try.pinned (OpenSpec.ofChange Rows.lineNeededSpec) :=
  OpenClaim.holds_of_wide 8 Try.f8 rfl rfl rfl rfl rfl rfl rfl ⟨rfl, rfl, rfl, rfl, rfl⟩ rfl rfl rfl rfl rfl lineNeeded_named Try.func8 lineNeeded_closed lineNeeded_instance lineNeeded_wrapper
    (fun os started H enc _ => lineNeeded_lifted os started H enc)

/-- THE STATEMENT. -/
theorem lineNeeded_holds : Rows.LineNeededSaid := lineNeeded_over

end Go.Proofs.Ytejbpoclfjkllaa
