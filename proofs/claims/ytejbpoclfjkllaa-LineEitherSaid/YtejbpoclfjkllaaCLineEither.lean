/- The law LineEither: for every input the call returns true, and its arguments read as before. No conditions. -/
import Derived.Test.YtejbpoclfjkllaaCZ4
import Derived.Test.YtejbpoclfjkllaaCFr
namespace Go.Proofs.Ytejbpoclfjkllaa
open Go Go.ChangeShapes Go.WideShapes Go.ChangeAt Go.RowKit

set_option maxRecDepth 100000 in
theorem lineEither_lifted (os : Os) (started : os.Started) (H : Type) (enc : TypeId × Value → H) :
    ReturnsInHanded {} Try.checked os 23 .any (Rows.lineEitherSpec.pre6 enc Try.prog Try.f23 Rows.lineEitherRow.domain false) (Rows.lineEitherSpec.post enc Try.prog Try.f23 false true false false) := by
  refine returnsInHanded_of_change (C := Try.checked) Try.own started (by kernel_rfl) Try.func23
    (ChangeSpec.witness6 (enc := enc) (C := Try.checked) false ⟨#[], #[.agg #[.int .i64 0, .slice none 0 0], .slice none 0 0], []⟩ 8 (by kernel_rfl) (by kernel_rfl) (by kernel_rfl) (by kernel_rfl)) ?_
  intro W base args ds gs before hval0 hW hcnd _
  have hval : ∀ (j : Nat) t v, Try.f23.params[j]? = some t → args[j]? = some v → Value.okWide Try.prog W .any base t v := hval0
  have hW' := hW
  obtain ⟨p, q, hA0, hV, rfl, hfz, hnd⟩ := hW
  have hA : DataW.TrodAll enc Try.prog W 0 (fun _ => true) true Try.f23.params.toList args.toList ds p := hA0
  rw [Try.params23] at hA hval
  obtain ⟨v0, vs0, d0, ds0, p0, q0, hargs, rfl, rfl, h0, r0⟩ := trodAll_cons hA
  obtain ⟨v1, vs1, d1, ds1, p1, q1, rfl, rfl, rfl, h1, r1⟩ := trodAll_cons r0
  obtain ⟨rfl, rfl, rfl⟩ := trodAll_nil r1
  obtain rfl : args = #[v0, v1] := by cases args; simp_all
  obtain ⟨rfl, rfl⟩ := trodVars_none hV
  obtain ⟨N0, a0, cap0, bs0, rfl, hN0, hB0, hS0, hl0, hok0⟩ := open_sys (hval 0 24 v0 rfl rfl) h0
  obtain ⟨a1, cap1, y1, rfl, hY1, hZ1, hm1, hyo1⟩ := open_list (hval 1 27 v1 rfl rfl) h1
  refine (lineEither_any W N0 a0 cap0 bs0 a1 cap1 y1 hN0 hl0 hm1 hB0 hY1).mono fun e W' ⟨he, hg⟩ => ?_
  subst he
  refine ⟨_, rfl, law_post hW' hg (by kernel_rfl) ?_ rfl rfl⟩
  intro t ht
  rw [Try.params23] at ht
  simp only [List.mem_cons, List.not_mem_nil, or_false] at ht
  rcases ht with rfl | rfl
  · exact argOk24
  · exact argOk27

/-! The row's closed facts, each by itself. -/
theorem lineEither_j0 : (Rows.lineEitherRow.wf (OpenSpec.ofChange Rows.lineEitherSpec)) = true := by kernel_rfl
theorem lineEither_j3 : (Try.f23.params.all (Try.prog.readableRec ·)) = true := by kernel_rfl
theorem lineEither_j4 : (namedTie Try.prog Rows.lineEitherRow.named Rows.lineEitherSpec.vars) = true := by kernel_rfl
theorem lineEither_j5 : ((Rows.lineEitherRow.stops == [])) = true := by kernel_rfl
theorem lineEither_j7 : ((Rows.lineEitherRow.knobs == [])) = true := by kernel_rfl
theorem lineEither_j9 : ((Rows.lineEitherRow.inPlace == Try.prog.inPlace 23)) = true := by kernel_rfl
theorem lineEither_j10 : ((Rows.lineEitherRow.unfollowed == Try.prog.unfollowed 23)) = true := by kernel_rfl
theorem lineEither_j11 : ((Rows.lineEitherRow.recurses == Try.prog.recurses 23)) = true := by kernel_rfl
theorem lineEither_j12 : ((Rows.lineEitherRow.named == Try.prog.varsNamed 23)) = true := by kernel_rfl
theorem lineEither_j13 : ((Rows.lineEitherRow.maps == (Try.f23.params.toList ++ Rows.lineEitherSpec.plain.varTypes Try.prog).any (Try.prog.mapsRec ·))) = true := by kernel_rfl
theorem lineEither_j14 : ((Rows.lineEitherRow.ifaces == (Try.f23.params.toList ++ Rows.lineEitherSpec.plain.varTypes Try.prog).any (Try.prog.ifacesRec ·))) = true := by kernel_rfl
theorem lineEither_j15 : ((Rows.lineEitherRow.mapsOut == Try.prog.mapsAmong Try.f23.resultTypes.toList)) = true := by kernel_rfl
theorem lineEither_j16 : ((Rows.lineEitherRow.loops == (Try.f23.params.toList ++ Rows.lineEitherSpec.plain.varTypes Try.prog).any (Try.prog.loopsFrom ·))) = true := by kernel_rfl
theorem lineEither_j17 : ((Rows.lineEitherRow.wideKeys == (Try.f23.params.toList ++ Rows.lineEitherSpec.plain.varTypes Try.prog ++ Try.f23.resultTypes.toList).any (Try.prog.wideKeysFrom ·))) = true := by kernel_rfl
theorem lineEither_j18 : (Rows.lineEitherSpec.vars.all (Try.prog.varReadable ·)) = true := by kernel_rfl
theorem lineEither_j19 : (Try.f23.resultTypes.all (fun t => Try.prog.readableRec t && decide (t < Try.prog.types.size))) = true := by kernel_rfl
theorem lineEither_j20 : ((Rows.lineEitherRow.ifacesOut == Try.f23.resultTypes.toList.any (Try.prog.ifacesRec ·))) = true := by kernel_rfl
theorem lineEither_j21 : ((Rows.lineEitherRow.loopsOut == Try.f23.resultTypes.toList.any (Try.prog.loopsFrom ·))) = true := by kernel_rfl
theorem lineEither_j22 : ((Rows.lineEitherRow.plainKeys == Try.prog.plainKeys)) = true := by rw [Try.fact22]; rfl
theorem lineEither_j23 : (Rows.lineEitherRow.shortTexts.isNone) = true := by kernel_rfl
theorem lineEither_j26 : ((Rows.lineEitherRow.lifted == Try.prog.liftsFinal)) = true := by rw [Try.fact26]; rfl
theorem lineEither_j27 : ((Try.prog.make == some Rows.lineEitherRow.make)) = true := by rw [Try.fact27]; rfl
theorem lineEither_j28 : ((Rows.lineEitherRow.kinds == (if Rows.lineEitherRow.domain.isEmpty then [] else Try.f23.params.toList.map fun t => match Try.prog.underlying t with | some (.int k) => some k | _ => none))) = true := by kernel_rfl
theorem lineEither_j29 : ((Rows.lineEitherRow.pinned == Rows.lineEitherRow.pinnedBy)) = true := by kernel_rfl
theorem lineEither_j30 : ((Rows.lineEitherRow.veiled == (Try.f23.params.toList ++ Rows.lineEitherSpec.plain.varTypes Try.prog ++ Try.f23.resultTypes.toList).any (Try.prog.veiledRec ·))) = true := by kernel_rfl
theorem lineEither_j31 : (Rows.lineEitherRow.veiledFits Try.prog Try.f23.params.toList (Try.f23.params.toList ++ Rows.lineEitherSpec.plain.varTypes Try.prog ++ Try.f23.resultTypes.toList)) = true := by kernel_rfl
set_option maxRecDepth 100000 in
theorem lineEither_closed : joinedFacts Try.prog 23 Try.f23 Rows.lineEitherSpec Rows.lineEitherRow = true := by
  unfold joinedFacts
  exact (and2 (and2 (and2 (and2 (and2 (and2 (and2 (and2 (and2 (and2 (and2 (and2 (and2 (and2 (and2 (and2 (and2 (and2 (and2 (and2 (and2 (and2 (and2 (and2 (and2 (and2 (and2 (and2 (and2 (and2 (and2 lineEither_j0 Try.fact1) Try.fact2) lineEither_j3) lineEither_j4) lineEither_j5) Try.fact6) lineEither_j7) Try.fact8) lineEither_j9) lineEither_j10) lineEither_j11) lineEither_j12) lineEither_j13) lineEither_j14) lineEither_j15) lineEither_j16) lineEither_j17) lineEither_j18) lineEither_j19) lineEither_j20) lineEither_j21) lineEither_j22) lineEither_j23) Try.fact24) Try.fact25) lineEither_j26) lineEither_j27) lineEither_j28) lineEither_j29) lineEither_j30) lineEither_j31)
theorem lineEither_named : Try.prog.funcNamed Rows.lineEitherRow.func = some 23 := by kernel_rfl
theorem lineEither_instance : Try.f23.isInstance Try.prog Rows.lineEitherRow.origin Rows.lineEitherRow.targs := of_decide_eq_true (by kernel_rfl)
theorem lineEither_wrapper : Try.f23.isWrapper Try.prog Rows.lineEitherRow.wrapper Rows.lineEitherRow.mainSum := by unfold Func.isWrapper; first | (rw [if_pos (by decide +kernel)]; kernel_rfl) | (rw [if_neg (by decide +kernel)]; exact ⟨rfl, rfl⟩)

set_option maxRecDepth 100000 in
theorem lineEither_over : Rows.lineEitherRow.holds Try.pinned (OpenSpec.ofChange Rows.lineEitherSpec) :=
  OpenClaim.holds_of_wide 23 Try.f23 rfl rfl rfl rfl rfl rfl rfl ⟨rfl, rfl, rfl, rfl, rfl⟩ rfl rfl rfl rfl rfl lineEither_named Try.func23 lineEither_closed lineEither_instance lineEither_wrapper
    (fun os started H enc _ => lineEither_lifted os started H enc)

/-- THE STATEMENT. -/
theorem lineEither_holds : Rows.LineEitherSaid := lineEither_over

end Go.Proofs.Ytejbpoclfjkllaa
