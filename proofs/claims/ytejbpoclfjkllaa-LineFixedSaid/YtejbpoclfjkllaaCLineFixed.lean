/- The law LineFixed: for every input the call returns true, and its arguments read as before. No conditions. -/
import Derived.Test.YtejbpoclfjkllaaCZy
import Derived.Test.YtejbpoclfjkllaaCFr
namespace Go.Proofs.Ytejbpoclfjkllaa
open Go Go.ChangeShapes Go.WideShapes Go.ChangeAt Go.RowKit

set_option maxRecDepth 100000 in
theorem lineFixed_lifted (os : Os) (started : os.Started) (H : Type) (enc : TypeId × Value → H) :
    ReturnsInHanded {} Try.checked os 20 .any (Rows.lineFixedSpec.pre6 enc Try.prog Try.f20 Rows.lineFixedRow.domain false) (Rows.lineFixedSpec.post enc Try.prog Try.f20 false true false false) := by
  refine returnsInHanded_of_change (C := Try.checked) Try.own started (by kernel_rfl) Try.func20
    (ChangeSpec.witness6 (enc := enc) (C := Try.checked) false ⟨#[], #[.agg #[.int .i64 0, .slice none 0 0], .slice none 0 0], []⟩ 8 (by kernel_rfl) (by kernel_rfl) (by kernel_rfl) (by kernel_rfl)) ?_
  intro W base args ds gs before hval0 hW hcnd _
  have hval : ∀ (j : Nat) t v, Try.f20.params[j]? = some t → args[j]? = some v → Value.okWide Try.prog W .any base t v := hval0
  have hW' := hW
  obtain ⟨p, q, hA0, hV, rfl, hfz, hnd⟩ := hW
  have hA : DataW.TrodAll enc Try.prog W 0 (fun _ => true) true Try.f20.params.toList args.toList ds p := hA0
  rw [Try.params20] at hA hval
  obtain ⟨v0, vs0, d0, ds0, p0, q0, hargs, rfl, rfl, h0, r0⟩ := trodAll_cons hA
  obtain ⟨v1, vs1, d1, ds1, p1, q1, rfl, rfl, rfl, h1, r1⟩ := trodAll_cons r0
  obtain ⟨rfl, rfl, rfl⟩ := trodAll_nil r1
  obtain rfl : args = #[v0, v1] := by cases args; simp_all
  obtain ⟨rfl, rfl⟩ := trodVars_none hV
  obtain ⟨N0, a0, cap0, bs0, rfl, hN0, hB0, hS0, hl0, hok0⟩ := open_sys (hval 0 24 v0 rfl rfl) h0
  obtain ⟨a1, cap1, y1, rfl, hY1, hZ1, hm1, hyo1⟩ := open_list (hval 1 27 v1 rfl rfl) h1
  refine (lineFixed_any W N0 a0 cap0 bs0 a1 cap1 y1 hN0 hl0 hB0 hm1 hY1).mono fun e W' ⟨he, hg⟩ => ?_
  subst he
  refine ⟨_, rfl, law_post hW' hg (by kernel_rfl) ?_ rfl rfl⟩
  intro t ht
  rw [Try.params20] at ht
  simp only [List.mem_cons, List.not_mem_nil, or_false] at ht
  rcases ht with rfl | rfl
  · exact argOk24
  · exact argOk27

/-! The row's closed facts, each by itself. -/
theorem lineFixed_j0 : (Rows.lineFixedRow.wf (OpenSpec.ofChange Rows.lineFixedSpec)) = true := by kernel_rfl
theorem lineFixed_j3 : (Try.f20.params.all (Try.prog.readableRec ·)) = true := by kernel_rfl
theorem lineFixed_j4 : (namedTie Try.prog Rows.lineFixedRow.named Rows.lineFixedSpec.vars) = true := by kernel_rfl
theorem lineFixed_j5 : ((Rows.lineFixedRow.stops == [])) = true := by kernel_rfl
theorem lineFixed_j7 : ((Rows.lineFixedRow.knobs == [])) = true := by kernel_rfl
theorem lineFixed_j9 : ((Rows.lineFixedRow.inPlace == Try.prog.inPlace 20)) = true := by kernel_rfl
theorem lineFixed_j10 : ((Rows.lineFixedRow.unfollowed == Try.prog.unfollowed 20)) = true := by kernel_rfl
theorem lineFixed_j11 : ((Rows.lineFixedRow.recurses == Try.prog.recurses 20)) = true := by kernel_rfl
theorem lineFixed_j12 : ((Rows.lineFixedRow.named == Try.prog.varsNamed 20)) = true := by kernel_rfl
theorem lineFixed_j13 : ((Rows.lineFixedRow.maps == (Try.f20.params.toList ++ Rows.lineFixedSpec.plain.varTypes Try.prog).any (Try.prog.mapsRec ·))) = true := by kernel_rfl
theorem lineFixed_j14 : ((Rows.lineFixedRow.ifaces == (Try.f20.params.toList ++ Rows.lineFixedSpec.plain.varTypes Try.prog).any (Try.prog.ifacesRec ·))) = true := by kernel_rfl
theorem lineFixed_j15 : ((Rows.lineFixedRow.mapsOut == Try.prog.mapsAmong Try.f20.resultTypes.toList)) = true := by kernel_rfl
theorem lineFixed_j16 : ((Rows.lineFixedRow.loops == (Try.f20.params.toList ++ Rows.lineFixedSpec.plain.varTypes Try.prog).any (Try.prog.loopsFrom ·))) = true := by kernel_rfl
theorem lineFixed_j17 : ((Rows.lineFixedRow.wideKeys == (Try.f20.params.toList ++ Rows.lineFixedSpec.plain.varTypes Try.prog ++ Try.f20.resultTypes.toList).any (Try.prog.wideKeysFrom ·))) = true := by kernel_rfl
theorem lineFixed_j18 : (Rows.lineFixedSpec.vars.all (Try.prog.varReadable ·)) = true := by kernel_rfl
theorem lineFixed_j19 : (Try.f20.resultTypes.all (fun t => Try.prog.readableRec t && decide (t < Try.prog.types.size))) = true := by kernel_rfl
theorem lineFixed_j20 : ((Rows.lineFixedRow.ifacesOut == Try.f20.resultTypes.toList.any (Try.prog.ifacesRec ·))) = true := by kernel_rfl
theorem lineFixed_j21 : ((Rows.lineFixedRow.loopsOut == Try.f20.resultTypes.toList.any (Try.prog.loopsFrom ·))) = true := by kernel_rfl
theorem lineFixed_j22 : ((Rows.lineFixedRow.plainKeys == Try.prog.plainKeys)) = true := by rw [Try.fact22]; rfl
theorem lineFixed_j23 : (Rows.lineFixedRow.shortTexts.isNone) = true := by kernel_rfl
theorem lineFixed_j26 : ((Rows.lineFixedRow.lifted == Try.prog.liftsFinal)) = true := by rw [Try.fact26]; rfl
theorem lineFixed_j27 : ((Try.prog.make == some Rows.lineFixedRow.make)) = true := by rw [Try.fact27]; rfl
theorem lineFixed_j28 : ((Rows.lineFixedRow.kinds == (if Rows.lineFixedRow.domain.isEmpty then [] else Try.f20.params.toList.map fun t => match Try.prog.underlying t with | some (.int k) => some k | _ => none))) = true := by kernel_rfl
theorem lineFixed_j29 : ((Rows.lineFixedRow.pinned == Rows.lineFixedRow.pinnedBy)) = true := by kernel_rfl
theorem lineFixed_j30 : ((Rows.lineFixedRow.veiled == (Try.f20.params.toList ++ Rows.lineFixedSpec.plain.varTypes Try.prog ++ Try.f20.resultTypes.toList).any (Try.prog.veiledRec ·))) = true := by kernel_rfl
theorem lineFixed_j31 : (Rows.lineFixedRow.veiledFits Try.prog Try.f20.params.toList (Try.f20.params.toList ++ Rows.lineFixedSpec.plain.varTypes Try.prog ++ Try.f20.resultTypes.toList)) = true := by kernel_rfl
set_option maxRecDepth 100000 in
theorem lineFixed_closed : joinedFacts Try.prog 20 Try.f20 Rows.lineFixedSpec Rows.lineFixedRow = true := by
  unfold joinedFacts
  exact (and2 (and2 (and2 (and2 (and2 (and2 (and2 (and2 (and2 (and2 (and2 (and2 (and2 (and2 (and2 (and2 (and2 (and2 (and2 (and2 (and2 (and2 (and2 (and2 (and2 (and2 (and2 (and2 (and2 (and2 (and2 lineFixed_j0 Try.fact1) Try.fact2) lineFixed_j3) lineFixed_j4) lineFixed_j5) Try.fact6) lineFixed_j7) Try.fact8) lineFixed_j9) lineFixed_j10) lineFixed_j11) lineFixed_j12) lineFixed_j13) lineFixed_j14) lineFixed_j15) lineFixed_j16) lineFixed_j17) lineFixed_j18) lineFixed_j19) lineFixed_j20) lineFixed_j21) lineFixed_j22) lineFixed_j23) Try.fact24) Try.fact25) lineFixed_j26) lineFixed_j27) lineFixed_j28) lineFixed_j29) lineFixed_j30) lineFixed_j31)
theorem lineFixed_named : Try.prog.funcNamed Rows.lineFixedRow.func = some 20 := by kernel_rfl
theorem lineFixed_instance : Try.f20.isInstance Try.prog Rows.lineFixedRow.origin Rows.lineFixedRow.targs := of_decide_eq_true (by kernel_rfl)
theorem lineFixed_wrapper : Try.f20.isWrapper Try.prog Rows.lineFixedRow.wrapper Rows.lineFixedRow.mainSum := by unfold Func.isWrapper; first | (rw [if_pos (by decide +kernel)]; kernel_rfl) | (rw [if_neg (by decide +kernel)]; exact ⟨rfl, rfl⟩)

set_option maxRecDepth 100000 in
theorem lineFixed_over : Rows.lineFixedRow.holds Try.pinned (OpenSpec.ofChange Rows.lineFixedSpec) :=
  OpenClaim.holds_of_wide 20 Try.f20 rfl rfl rfl rfl rfl rfl rfl ⟨rfl, rfl, rfl, rfl, rfl⟩ rfl rfl rfl rfl rfl lineFixed_named Try.func20 lineFixed_closed lineFixed_instance lineFixed_wrapper
    (fun os started H enc _ => lineFixed_lifted os started H enc)

/-- THE STATEMENT. -/
theorem lineFixed_holds : Rows.LineFixedSaid := lineFixed_over

end Go.Proofs.Ytejbpoclfjkllaa
