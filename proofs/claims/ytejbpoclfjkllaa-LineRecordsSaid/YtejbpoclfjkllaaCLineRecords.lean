/- The law LineRecords: for every input the call returns true, and its arguments read as before. No conditions. -/
import Derived.Test.YtejbpoclfjkllaaCZb
import Derived.Test.YtejbpoclfjkllaaCFr
namespace Go.Proofs.Ytejbpoclfjkllaa
open Go Go.ChangeShapes Go.WideShapes Go.ChangeAt Go.RowKit

set_option maxRecDepth 100000 in
theorem lineRecords_lifted (os : Os) (started : os.Started) (H : Type) (enc : TypeId × Value → H) :
    ReturnsInHanded {} Try.checked os 14 .any (Rows.lineRecordsSpec.pre6 enc Try.prog Try.f14 Rows.lineRecordsRow.domain false) (Rows.lineRecordsSpec.post enc Try.prog Try.f14 false true false false) := by
  refine returnsInHanded_of_change (C := Try.checked) Try.own started (by kernel_rfl) Try.func14
    (ChangeSpec.witness6 (enc := enc) (C := Try.checked) false ⟨#[], #[.agg #[.int .i64 0, .slice none 0 0], .slice none 0 0], []⟩ 8 (by kernel_rfl) (by kernel_rfl) (by kernel_rfl) (by kernel_rfl)) ?_
  intro W base args ds gs before hval0 hW hcnd _
  have hval : ∀ (j : Nat) t v, Try.f14.params[j]? = some t → args[j]? = some v → Value.okWide Try.prog W .any base t v := hval0
  have hW' := hW
  obtain ⟨p, q, hA0, hV, rfl, hfz, hnd⟩ := hW
  have hA : DataW.TrodAll enc Try.prog W 0 (fun _ => true) true Try.f14.params.toList args.toList ds p := hA0
  rw [Try.params14] at hA hval
  obtain ⟨v0, vs0, d0, ds0, p0, q0, hargs, rfl, rfl, h0, r0⟩ := trodAll_cons hA
  obtain ⟨v1, vs1, d1, ds1, p1, q1, rfl, rfl, rfl, h1, r1⟩ := trodAll_cons r0
  obtain ⟨rfl, rfl, rfl⟩ := trodAll_nil r1
  obtain rfl : args = #[v0, v1] := by cases args; simp_all
  obtain ⟨rfl, rfl⟩ := trodVars_none hV
  obtain ⟨N0, a0, cap0, bs0, rfl, hN0, hB0, hS0, hl0, hok0⟩ := open_sys (hval 0 24 v0 rfl rfl) h0
  obtain ⟨a1, cap1, y1, rfl, hY1, hZ1, hm1, hyo1⟩ := open_list (hval 1 27 v1 rfl rfl) h1
  refine (lineRecords_any W N0 a0 cap0 bs0 a1 cap1 y1 hN0 hl0 hm1 hB0 hS0 hY1).mono fun e W' ⟨he, hg⟩ => ?_
  subst he
  refine ⟨_, rfl, law_post hW' hg (by kernel_rfl) ?_ rfl rfl⟩
  intro t ht
  rw [Try.params14] at ht
  simp only [List.mem_cons, List.not_mem_nil, or_false] at ht
  rcases ht with rfl | rfl
  · exact argOk24
  · exact argOk27

/-! The row's closed facts, each by itself. -/
theorem lineRecords_j0 : (Rows.lineRecordsRow.wf (OpenSpec.ofChange Rows.lineRecordsSpec)) = true := by kernel_rfl
theorem lineRecords_j3 : (Try.f14.params.all (Try.prog.readableRec ·)) = true := by kernel_rfl
theorem lineRecords_j4 : (namedTie Try.prog Rows.lineRecordsRow.named Rows.lineRecordsSpec.vars) = true := by kernel_rfl
theorem lineRecords_j5 : ((Rows.lineRecordsRow.stops == [])) = true := by kernel_rfl
theorem lineRecords_j7 : ((Rows.lineRecordsRow.knobs == [])) = true := by kernel_rfl
theorem lineRecords_j9 : ((Rows.lineRecordsRow.inPlace == Try.prog.inPlace 14)) = true := by kernel_rfl
theorem lineRecords_j10 : ((Rows.lineRecordsRow.unfollowed == Try.prog.unfollowed 14)) = true := by kernel_rfl
theorem lineRecords_j11 : ((Rows.lineRecordsRow.recurses == Try.prog.recurses 14)) = true := by kernel_rfl
theorem lineRecords_j12 : ((Rows.lineRecordsRow.named == Try.prog.varsNamed 14)) = true := by kernel_rfl
theorem lineRecords_j13 : ((Rows.lineRecordsRow.maps == (Try.f14.params.toList ++ Rows.lineRecordsSpec.plain.varTypes Try.prog).any (Try.prog.mapsRec ·))) = true := by kernel_rfl
theorem lineRecords_j14 : ((Rows.lineRecordsRow.ifaces == (Try.f14.params.toList ++ Rows.lineRecordsSpec.plain.varTypes Try.prog).any (Try.prog.ifacesRec ·))) = true := by kernel_rfl
theorem lineRecords_j15 : ((Rows.lineRecordsRow.mapsOut == Try.prog.mapsAmong Try.f14.resultTypes.toList)) = true := by kernel_rfl
theorem lineRecords_j16 : ((Rows.lineRecordsRow.loops == (Try.f14.params.toList ++ Rows.lineRecordsSpec.plain.varTypes Try.prog).any (Try.prog.loopsFrom ·))) = true := by kernel_rfl
theorem lineRecords_j17 : ((Rows.lineRecordsRow.wideKeys == (Try.f14.params.toList ++ Rows.lineRecordsSpec.plain.varTypes Try.prog ++ Try.f14.resultTypes.toList).any (Try.prog.wideKeysFrom ·))) = true := by kernel_rfl
theorem lineRecords_j18 : (Rows.lineRecordsSpec.vars.all (Try.prog.varReadable ·)) = true := by kernel_rfl
theorem lineRecords_j19 : (Try.f14.resultTypes.all (fun t => Try.prog.readableRec t && decide (t < Try.prog.types.size))) = true := by kernel_rfl
theorem lineRecords_j20 : ((Rows.lineRecordsRow.ifacesOut == Try.f14.resultTypes.toList.any (Try.prog.ifacesRec ·))) = true := by kernel_rfl
theorem lineRecords_j21 : ((Rows.lineRecordsRow.loopsOut == Try.f14.resultTypes.toList.any (Try.prog.loopsFrom ·))) = true := by kernel_rfl
theorem lineRecords_j22 : ((Rows.lineRecordsRow.plainKeys == Try.prog.plainKeys)) = true := by rw [Try.fact22]; rfl
theorem lineRecords_j23 : (Rows.lineRecordsRow.shortTexts.isNone) = true := by kernel_rfl
theorem lineRecords_j26 : ((Rows.lineRecordsRow.lifted == Try.prog.liftsFinal)) = true := by rw [Try.fact26]; rfl
theorem lineRecords_j27 : ((Try.prog.make == some Rows.lineRecordsRow.make)) = true := by rw [Try.fact27]; rfl
theorem lineRecords_j28 : ((Rows.lineRecordsRow.kinds == (if Rows.lineRecordsRow.domain.isEmpty then [] else Try.f14.params.toList.map fun t => match Try.prog.underlying t with | some (.int k) => some k | _ => none))) = true := by kernel_rfl
theorem lineRecords_j29 : ((Rows.lineRecordsRow.pinned == Rows.lineRecordsRow.pinnedBy)) = true := by kernel_rfl
theorem lineRecords_j30 : ((Rows.lineRecordsRow.veiled == (Try.f14.params.toList ++ Rows.lineRecordsSpec.plain.varTypes Try.prog ++ Try.f14.resultTypes.toList).any (Try.prog.veiledRec ·))) = true := by kernel_rfl
theorem lineRecords_j31 : (Rows.lineRecordsRow.veiledFits Try.prog Try.f14.params.toList (Try.f14.params.toList ++ Rows.lineRecordsSpec.plain.varTypes Try.prog ++ Try.f14.resultTypes.toList)) = true := by kernel_rfl
set_option maxRecDepth 100000 in
theorem lineRecords_closed : joinedFacts Try.prog 14 Try.f14 Rows.lineRecordsSpec Rows.lineRecordsRow = true := by
  unfold joinedFacts
  exact (and2 (and2 (and2 (and2 (and2 (and2 (and2 (and2 (and2 (and2 (and2 (and2 (and2 (and2 (and2 (and2 (and2 (and2 (and2 (and2 (and2 (and2 (and2 (and2 (and2 (and2 (and2 (and2 (and2 (and2 (and2 lineRecords_j0 Try.fact1) Try.fact2) lineRecords_j3) lineRecords_j4) lineRecords_j5) Try.fact6) lineRecords_j7) Try.fact8) lineRecords_j9) lineRecords_j10) lineRecords_j11) lineRecords_j12) lineRecords_j13) lineRecords_j14) lineRecords_j15) lineRecords_j16) lineRecords_j17) lineRecords_j18) lineRecords_j19) lineRecords_j20) lineRecords_j21) lineRecords_j22) lineRecords_j23) Try.fact24) Try.fact25) lineRecords_j26) lineRecords_j27) lineRecords_j28) lineRecords_j29) lineRecords_j30) lineRecords_j31)
theorem lineRecords_named : Try.prog.funcNamed Rows.lineRecordsRow.func = some 14 := by kernel_rfl
theorem lineRecords_instance : Try.f14.isInstance Try.prog Rows.lineRecordsRow.origin Rows.lineRecordsRow.targs := of_decide_eq_true (by kernel_rfl)
theorem lineRecords_wrapper : Try.f14.isWrapper Try.prog Rows.lineRecordsRow.wrapper Rows.lineRecordsRow.mainSum := by unfold Func.isWrapper; first | (rw [if_pos (by decide +kernel)]; kernel_rfl) | (rw [if_neg (by decide +kernel)]; exact ⟨rfl, rfl⟩)

set_option maxRecDepth 100000 in
theorem lineRecords_over : Rows.lineRecordsRow.holds Try.pinned (OpenSpec.ofChange Rows.lineRecordsSpec) :=
  OpenClaim.holds_of_wide 14 Try.f14 rfl rfl rfl rfl rfl rfl rfl ⟨rfl, rfl, rfl, rfl, rfl⟩ rfl rfl rfl rfl rfl lineRecords_named Try.func14 lineRecords_closed lineRecords_instance lineRecords_wrapper
    (fun os started H enc _ => lineRecords_lifted os started H enc)

/-- THE STATEMENT. -/
theorem lineRecords_holds : Rows.LineRecordsSaid := lineRecords_over

end Go.Proofs.Ytejbpoclfjkllaa
