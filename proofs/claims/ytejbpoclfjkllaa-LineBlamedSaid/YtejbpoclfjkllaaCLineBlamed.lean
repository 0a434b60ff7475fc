/- The law LineBlamed: for every input the call returns true, and its arguments read as before. No conditions. -/
import Derived.Test.YtejbpoclfjkllaaCZd
import Derived.Test.YtejbpoclfjkllaaCFr
namespace Go.Proofs.Ytejbpoclfjkllaa
open Go Go.ChangeShapes Go.WideShapes Go.ChangeAt Go.RowKit

set_option maxRecDepth 100000 in
theorem lineBlamed_lifted (os : Os) (started : os.Started) (H : Type) (enc : TypeId × Value → H) :
    ReturnsInHanded {} Try.checked os 22 .any (Rows.lineBlamedSpec.pre6 enc Try.prog Try.f22 Rows.lineBlamedRow.domain false) (Rows.lineBlamedSpec.post enc Try.prog Try.f22 false true false false) := by
  refine returnsInHanded_of_change (C := Try.checked) Try.own started (by kernel_rfl) Try.func22
    (ChangeSpec.witness6 (enc := enc) (C := Try.checked) false ⟨#[], #[.agg #[.int .i64 0, .slice none 0 0], .slice none 0 0], []⟩ 8 (by kernel_rfl) (by kernel_rfl) (by kernel_rfl) (by kernel_rfl)) ?_
  intro W base args ds gs before hval0 hW hcnd _
  have hval : ∀ (j : Nat) t v, Try.f22.params[j]? = some t → args[j]? = some v → Value.okWide Try.prog W .any base t v := hval0
  have hW' := hW
  obtain ⟨p, q, hA0, hV, rfl, hfz, hnd⟩ := hW
  have hA : DataW.TrodAll enc Try.prog W 0 (fun _ => true) true Try.f22.params.toList args.toList ds p := hA0
  rw [Try.params22] at hA hval
  obtain ⟨v0, vs0, d0, ds0, p0, q0, hargs, rfl, rfl, h0, r0⟩ := trodAll_cons hA
  obtain ⟨v1, vs1, d1, ds1, p1, q1, rfl, rfl, rfl, h1, r1⟩ := trodAll_cons r0
  obtain ⟨rfl, rfl, rfl⟩ := trodAll_nil r1
  obtain rfl : args = #[v0, v1] := by cases args; simp_all
  obtain ⟨rfl, rfl⟩ := trodVars_none hV
  obtain ⟨N0, a0, cap0, bs0, rfl, hN0, hB0, hS0, hl0, hok0⟩ := open_sys (hval 0 24 v0 rfl rfl) h0
  obtain ⟨a1, cap1, y1, rfl, hY1, hZ1, hm1, hyo1⟩ := open_list (hval 1 27 v1 rfl rfl) h1
  refine (lineBlamed_any W N0 a0 cap0 bs0 a1 cap1 y1 hN0 hl0 hm1 hB0 hS0 hY1).mono fun e W' ⟨he, hg⟩ => ?_
  subst he
  refine ⟨_, rfl, law_post hW' hg (by kernel_rfl) ?_ rfl rfl⟩
  intro t ht
  rw [Try.params22] at ht
  simp only [List.mem_cons, List.not_mem_nil, or_false] at ht
  rcases ht with rfl | rfl
  · exact argOk24
  · exact argOk27

/-! The row's closed facts, each by itself. -/
theorem lineBlamed_j0 : (Rows.lineBlamedRow.wf (OpenSpec.ofChange Rows.lineBlamedSpec)) = true := by kernel_rfl
theorem lineBlamed_j3 : (Try.f22.params.all (Try.prog.readableRec ·)) = true := by kernel_rfl
theorem lineBlamed_j4 : (namedTie Try.prog Rows.lineBlamedRow.named Rows.lineBlamedSpec.vars) = true := by kernel_rfl
theorem lineBlamed_j5 : ((Rows.lineBlamedRow.stops == [])) = true := by kernel_rfl
theorem lineBlamed_j7 : ((Rows.lineBlamedRow.knobs == [])) = true := by kernel_rfl
theorem lineBlamed_j9 : ((Rows.lineBlamedRow.inPlace == Try.prog.inPlace 22)) = true := by kernel_rfl
theorem lineBlamed_j10 : ((Rows.lineBlamedRow.unfollowed == Try.prog.unfollowed 22)) = true := by kernel_rfl
theorem lineBlamed_j11 : ((Rows.lineBlamedRow.recurses == Try.prog.recurses 22)) = true := by kernel_rfl
theorem lineBlamed_j12 : ((Rows.lineBlamedRow.named == Try.prog.varsNamed 22)) = true := by kernel_rfl
theorem lineBlamed_j13 : ((Rows.lineBlamedRow.maps == (Try.f22.params.toList ++ Rows.lineBlamedSpec.plain.varTypes Try.prog).any (Try.prog.mapsRec ·))) = true := by kernel_rfl
theorem lineBlamed_j14 : ((Rows.lineBlamedRow.ifaces == (Try.f22.params.toList ++ Rows.lineBlamedSpec.plain.varTypes Try.prog).any (Try.prog.ifacesRec ·))) = true := by kernel_rfl
theorem lineBlamed_j15 : ((Rows.lineBlamedRow.mapsOut == Try.prog.mapsAmong Try.f22.resultTypes.toList)) = true := by kernel_rfl
theorem lineBlamed_j16 : ((Rows.lineBlamedRow.loops == (Try.f22.params.toList ++ Rows.lineBlamedSpec.plain.varTypes Try.prog).any (Try.prog.loopsFrom ·))) = true := by kernel_rfl
theorem lineBlamed_j17 : ((Rows.lineBlamedRow.wideKeys == (Try.f22.params.toList ++ Rows.lineBlamedSpec.plain.varTypes Try.prog ++ Try.f22.resultTypes.toList).any (Try.prog.wideKeysFrom ·))) = true := by kernel_rfl
theorem lineBlamed_j18 : (Rows.lineBlamedSpec.vars.all (Try.prog.varReadable ·)) = true := by kernel_rfl
theorem lineBlamed_j19 : (Try.f22.resultTypes.all (fun t => Try.prog.readableRec t && decide (t < Try.prog.types.size))) = true := by kernel_rfl
theorem lineBlamed_j20 : ((Rows.lineBlamedRow.ifacesOut == Try.f22.resultTypes.toList.any (Try.prog.ifacesRec ·))) = true := by kernel_rfl
theorem lineBlamed_j21 : ((Rows.lineBlamedRow.loopsOut == Try.f22.resultTypes.toList.any (Try.prog.loopsFrom ·))) = true := by kernel_rfl
theorem lineBlamed_j22 : ((Rows.lineBlamedRow.plainKeys == Try.prog.plainKeys)) = true := by rw [Try.fact22]; rfl
theorem lineBlamed_j23 : (Rows.lineBlamedRow.shortTexts.isNone) = true := by kernel_rfl
theorem lineBlamed_j26 : ((Rows.lineBlamedRow.lifted == Try.prog.liftsFinal)) = true := by rw [Try.fact26]; rfl
theorem lineBlamed_j27 : ((Try.prog.make == some Rows.lineBlamedRow.make)) = true := by rw [Try.fact27]; rfl
theorem lineBlamed_j28 : ((Rows.lineBlamedRow.kinds == (if Rows.lineBlamedRow.domain.isEmpty then [] else Try.f22.params.toList.map fun t => match Try.prog.underlying t with | some (.int k) => some k | _ => none))) = true := by kernel_rfl
theorem lineBlamed_j29 : ((Rows.lineBlamedRow.pinned == Rows.lineBlamedRow.pinnedBy)) = true := by kernel_rfl
theorem lineBlamed_j30 : ((Rows.lineBlamedRow.veiled == (Try.f22.params.toList ++ Rows.lineBlamedSpec.plain.varTypes Try.prog ++ Try.f22.resultTypes.toList).any (Try.prog.veiledRec ·))) = true := by kernel_rfl
theorem lineBlamed_j31 : (Rows.lineBlamedRow.veiledFits Try.prog Try.f22.params.toList (Try.f22.params.toList ++ Rows.lineBlamedSpec.plain.varTypes Try.prog ++ Try.f22.resultTypes.toList)) = true := by kernel_rfl
set_option maxRecDepth 100000 in
theorem lineBlamed_closed : joinedFacts Try.prog 22 Try.f22 Rows.lineBlamedSpec Rows.lineBlamedRow = true := by
  unfold joinedFacts
  exact (and2 (and2 (and2 (and2 (and2 (and2 (and2 (and2 (and2 (and2 (and2 (and2 (and2 (and2 (and2 (and2 (and2 (and2 (and2 (and2 (and2 (and2 (and2 (and2 (and2 (and2 (and2 (and2 (and2 (and2 (and2 lineBlamed_j0 Try.fact1) Try.fact2) lineBlamed_j3) lineBlamed_j4) lineBlamed_j5) Try.fact6) lineBlamed_j7) Try.fact8) lineBlamed_j9) lineBlamed_j10) lineBlamed_j11) lineBlamed_j12) lineBlamed_j13) lineBlamed_j14) lineBlamed_j15) lineBlamed_j16) lineBlamed_j17) lineBlamed_j18) lineBlamed_j19) lineBlamed_j20) lineBlamed_j21) lineBlamed_j22) lineBlamed_j23) Try.fact24) Try.fact25) lineBlamed_j26) lineBlamed_j27) lineBlamed_j28) lineBlamed_j29) lineBlamed_j30) lineBlamed_j31)
theorem lineBlamed_named : Try.prog.funcNamed Rows.lineBlamedRow.func = some 22 := by kernel_rfl
theorem lineBlamed_instance : Try.f22.isInstance Try.prog Rows.lineBlamedRow.origin Rows.lineBlamedRow.targs := of_decide_eq_true (by kernel_rfl)
theorem lineBlamed_wrapper : Try.f22.isWrapper Try.prog Rows.lineBlamedRow.wrapper Rows.lineBlamedRow.mainSum := by unfold Func.isWrapper; first | (rw [if_pos (by decide +kernel)]; kernel_rfl) | (rw [if_neg (by decide +kernel)]; exact ⟨rfl, rfl⟩)

set_option maxRecDepth 100000 in
theorem lineBlamed_over : Rows.lineBlamedRow.holds Try.pinned (OpenSpec.ofChange Rows.lineBlamedSpec) :=
  OpenClaim.holds_of_wide 22 Try.f22 rfl rfl rfl rfl rfl rfl rfl ⟨rfl, rfl, rfl, rfl, rfl⟩ rfl rfl rfl rfl rfl lineBlamed_named Try.func22 lineBlamed_closed lineBlamed_instance lineBlamed_wrapper
    (fun os started H enc _ => lineBlamed_lifted os started H enc)

/-- THE STATEMENT. -/
theorem lineBlamed_holds : Rows.LineBlamedSaid := lineBlamed_over

end Go.Proofs.Ytejbpoclfjkllaa
