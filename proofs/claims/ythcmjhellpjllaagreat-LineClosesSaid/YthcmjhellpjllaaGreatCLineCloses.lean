/- The law LineCloses: for every input the call returns true, and its arguments read as before. No conditions. -/
import Derived.Test.YthcmjhellpjllaaGreatCS9
import Derived.Test.YthcmjhellpjllaaGreatCFr
namespace Go.Proofs.YthcmjhellpjllaaGreat
open Go Go.ChangeShapes Go.WideShapes Go.ChangeAt Go.RowKit

set_option maxRecDepth 100000 in
theorem lineCloses_lifted (os : Os) (started : os.Started) (H : Type) (enc : TypeId × Value → H) :
    ReturnsInHanded {} Tryz.checked os 3 .any (Rows.lineClosesSpec.pre6 enc Tryz.prog Tryz.f3 Rows.lineClosesRow.domain false) (Rows.lineClosesSpec.post enc Tryz.prog Tryz.f3 false true false false) := by
  refine returnsInHanded_of_change (C := Tryz.checked) Tryz.own started (by kernel_rfl) Tryz.func3
    (ChangeSpec.witness6 (enc := enc) (C := Tryz.checked) false ⟨#[], #[.agg #[.int .i64 0, .slice none 0 0]], []⟩ 8 (by kernel_rfl) (by kernel_rfl) (by kernel_rfl) (by kernel_rfl)) ?_
  intro W base args ds gs before hval0 hW hcnd _
  have hval : ∀ (j : Nat) t v, Tryz.f3.params[j]? = some t → args[j]? = some v → Value.okWide Tryz.prog W .any base t v := hval0
  have hW' := hW
  obtain ⟨p, q, hA0, hV, rfl, hfz, hnd⟩ := hW
  have hA : DataW.TrodAll enc Tryz.prog W 0 (fun _ => true) true Tryz.f3.params.toList args.toList ds p := hA0
  rw [Tryz.params3] at hA hval
  obtain ⟨v0, vs0, d0, ds0, p0, q0, hargs, rfl, rfl, h0, r0⟩ := trodAll_cons hA
  obtain ⟨rfl, rfl, rfl⟩ := trodAll_nil r0
  obtain rfl : args = #[v0] := by cases args; simp_all
  obtain ⟨rfl, rfl⟩ := trodVars_none hV
  obtain ⟨N0, a0, cap0, bs0, rfl, hN0, hB0, hS0, hl0, hok0⟩ := open_sys (hval 0 24 v0 rfl rfl) h0
  refine (lineCloses_any W N0 a0 cap0 bs0 hN0 hl0 hB0).mono fun e W' ⟨he, hg⟩ => ?_
  subst he
  refine ⟨_, rfl, law_post hW' hg (by kernel_rfl) ?_ rfl rfl⟩
  intro t ht
  rw [Tryz.params3] at ht
  simp only [List.mem_cons, List.not_mem_nil, or_false] at ht
  rcases ht with rfl
  · exact argOk24

/-! The row's closed facts, each by itself. -/
theorem lineCloses_j0 : (Rows.lineClosesRow.wf (OpenSpec.ofChange Rows.lineClosesSpec)) = true := by kernel_rfl
theorem lineCloses_j3 : (Tryz.f3.params.all (Tryz.prog.readableRec ·)) = true := by kernel_rfl
theorem lineCloses_j4 : (namedTie Tryz.prog Rows.lineClosesRow.named Rows.lineClosesSpec.vars) = true := by kernel_rfl
theorem lineCloses_j5 : ((Rows.lineClosesRow.stops == [])) = true := by kernel_rfl
theorem lineCloses_j7 : ((Rows.lineClosesRow.knobs == [])) = true := by kernel_rfl
theorem lineCloses_j9 : ((Rows.lineClosesRow.inPlace == Tryz.prog.inPlace 3)) = true := by kernel_rfl
theorem lineCloses_j10 : ((Rows.lineClosesRow.unfollowed == Tryz.prog.unfollowed 3)) = true := by kernel_rfl
theorem lineCloses_j11 : ((Rows.lineClosesRow.recurses == Tryz.prog.recurses 3)) = true := by kernel_rfl
theorem lineCloses_j12 : ((Rows.lineClosesRow.named == Tryz.prog.varsNamed 3)) = true := by kernel_rfl
theorem lineCloses_j13 : ((Rows.lineClosesRow.maps == (Tryz.f3.params.toList ++ Rows.lineClosesSpec.plain.varTypes Tryz.prog).any (Tryz.prog.mapsRec ·))) = true := by kernel_rfl
theorem lineCloses_j14 : ((Rows.lineClosesRow.ifaces == (Tryz.f3.params.toList ++ Rows.lineClosesSpec.plain.varTypes Tryz.prog).any (Tryz.prog.ifacesRec ·))) = true := by kernel_rfl
theorem lineCloses_j15 : ((Rows.lineClosesRow.mapsOut == Tryz.prog.mapsAmong Tryz.f3.resultTypes.toList)) = true := by kernel_rfl
theorem lineCloses_j16 : ((Rows.lineClosesRow.loops == (Tryz.f3.params.toList ++ Rows.lineClosesSpec.plain.varTypes Tryz.prog).any (Tryz.prog.loopsFrom ·))) = true := by kernel_rfl
theorem lineCloses_j17 : ((Rows.lineClosesRow.wideKeys == (Tryz.f3.params.toList ++ Rows.lineClosesSpec.plain.varTypes Tryz.prog ++ Tryz.f3.resultTypes.toList).any (Tryz.prog.wideKeysFrom ·))) = true := by kernel_rfl
theorem lineCloses_j18 : (Rows.lineClosesSpec.vars.all (Tryz.prog.varReadable ·)) = true := by kernel_rfl
theorem lineCloses_j19 : (Tryz.f3.resultTypes.all (fun t => Tryz.prog.readableRec t && decide (t < Tryz.prog.types.size))) = true := by kernel_rfl
theorem lineCloses_j20 : ((Rows.lineClosesRow.ifacesOut == Tryz.f3.resultTypes.toList.any (Tryz.prog.ifacesRec ·))) = true := by kernel_rfl
theorem lineCloses_j21 : ((Rows.lineClosesRow.loopsOut == Tryz.f3.resultTypes.toList.any (Tryz.prog.loopsFrom ·))) = true := by kernel_rfl
theorem lineCloses_j22 : ((Rows.lineClosesRow.plainKeys == Tryz.prog.plainKeys)) = true := by rw [Tryz.fact22]; rfl
theorem lineCloses_j23 : (Rows.lineClosesRow.shortTexts.isNone) = true := by kernel_rfl
theorem lineCloses_j26 : ((Rows.lineClosesRow.lifted == Tryz.prog.liftsFinal)) = true := by rw [Tryz.fact26]; rfl
theorem lineCloses_j27 : ((Tryz.prog.make == some Rows.lineClosesRow.make)) = true := by rw [Tryz.fact27]; rfl
theorem lineCloses_j28 : ((Rows.lineClosesRow.kinds == (if Rows.lineClosesRow.domain.isEmpty then [] else Tryz.f3.params.toList.map fun t => match Tryz.prog.underlying t with | some (.int k) => some k | _ => none))) = true := by kernel_rfl
theorem lineCloses_j29 : ((Rows.lineClosesRow.pinned == Rows.lineClosesRow.pinnedBy)) = true := by kernel_rfl
theorem lineCloses_j30 : ((Rows.lineClosesRow.veiled == (Tryz.f3.params.toList ++ Rows.lineClosesSpec.plain.varTypes Tryz.prog ++ Tryz.f3.resultTypes.toList).any (Tryz.prog.veiledRec ·))) = true := by kernel_rfl
theorem lineCloses_j31 : (Rows.lineClosesRow.veiledFits Tryz.prog Tryz.f3.params.toList (Tryz.f3.params.toList ++ Rows.lineClosesSpec.plain.varTypes Tryz.prog ++ Tryz.f3.resultTypes.toList)) = true := by kernel_rfl
set_option maxRecDepth 100000 in
theorem lineCloses_closed : joinedFacts Tryz.prog 3 Tryz.f3 Rows.lineClosesSpec Rows.lineClosesRow = true := by
  unfold joinedFacts
  exact (and2 (and2 (and2 (and2 (and2 (and2 (and2 (and2 (and2 (and2 (and2 (and2 (and2 (and2 (and2 (and2 (and2 (and2 (and2 (and2 (and2 (and2 (and2 (and2 (and2 (and2 (and2 (and2 (and2 (and2 (and2 lineCloses_j0 Tryz.fact1) Tryz.fact2) lineCloses_j3) lineCloses_j4) lineCloses_j5) Tryz.fact6) lineCloses_j7) Tryz.fact8) lineCloses_j9) lineCloses_j10) lineCloses_j11) lineCloses_j12) lineCloses_j13) lineCloses_j14) lineCloses_j15) lineCloses_j16) lineCloses_j17) lineCloses_j18) lineCloses_j19) lineCloses_j20) lineCloses_j21) lineCloses_j22) lineCloses_j23) Tryz.fact24) Tryz.fact25) lineCloses_j26) lineCloses_j27) lineCloses_j28) lineCloses_j29) lineCloses_j30) lineCloses_j31)
theorem lineCloses_named : Tryz.prog.funcNamed Rows.lineClosesRow.func = some 3 := by kernel_rfl
theorem lineCloses_instance : Tryz.f3.isInstance Tryz.prog Rows.lineClosesRow.origin Rows.lineClosesRow.targs := of_decide_eq_true (by kernel_rfl)
theorem lineCloses_wrapper : Tryz.f3.isWrapper Tryz.prog Rows.lineClosesRow.wrapper Rows.lineClosesRow.mainSum := by unfold Func.isWrapper; first | (rw [if_pos (by decide +kernel)]; kernel_rfl) | (rw [if_neg (by decide +kernel)]; exact ⟨rfl, rfl⟩)

set_option maxRecDepth 100000 in
theorem lineCloses_over : Rows.lineClosesRow.holds Tryz.pinned (OpenSpec.ofChange Rows.lineClosesSpec) :=
  OpenClaim.holds_of_wide 3 Tryz.f3 rfl rfl rfl rfl rfl rfl rfl ⟨rfl, rfl, rfl, rfl, rfl⟩ rfl rfl rfl rfl rfl lineCloses_named Tryz.func3 lineCloses_closed lineCloses_instance lineCloses_wrapper
    (fun os started H enc _ => lineCloses_lifted os started H enc)

/-- THE STATEMENT. -/
theorem lineCloses_holds : Rows.LineClosesSaid := lineCloses_over

end Go.Proofs.YthcmjhellpjllaaGreat
