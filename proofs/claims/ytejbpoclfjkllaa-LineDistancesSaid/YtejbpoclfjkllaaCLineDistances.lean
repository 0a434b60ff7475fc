/- The law LineDistances: for every input the call returns true, and its arguments read as before. No conditions. -/
import Derived.Test.YtejbpoclfjkllaaCZ9
import Derived.Test.YtejbpoclfjkllaaCFr
namespace Go.Proofs.Ytejbpoclfjkllaa
open Go Go.ChangeShapes Go.WideShapes Go.ChangeAt Go.RowKit

set_option maxRecDepth 100000 in
theorem lineDistances_lifted (os : Os) (started : os.Started) (H : Type) (enc : TypeId × Value → H) :
    ReturnsInHanded {} Try.checked os 7 .any (Rows.lineDistancesSpec.pre6 enc Try.prog Try.f7 Rows.lineDistancesRow.domain false) (Rows.lineDistancesSpec.post enc Try.prog Try.f7 false true false false) := by
  refine returnsInHanded_of_change (C := Try.checked) Try.own started (by kernel_rfl) Try.func7
    (ChangeSpec.witness6 (enc := enc) (C := Try.checked) false ⟨#[], #[.agg #[.int .i64 0, .slice none 0 0], .int .i64 0, .int .i64 0], []⟩ 8 (by kernel_rfl) (by kernel_rfl) (by kernel_rfl) (by kernel_rfl)) ?_
  intro W base args ds gs before hval0 hW hcnd _
  have hval : ∀ (j : Nat) t v, Try.f7.params[j]? = some t → args[j]? = some v → Value.okWide Try.prog W .any base t v := hval0
  have hW' := hW
  obtain ⟨p, q, hA0, hV, rfl, hfz, hnd⟩ := hW
  have hA : DataW.TrodAll enc Try.prog W 0 (fun _ => true) true Try.f7.params.toList args.toList ds p := hA0
  rw [Try.params7] at hA hval
  obtain ⟨v0, vs0, d0, ds0, p0, q0, hargs, rfl, rfl, h0, r0⟩ := trodAll_cons hA
  obtain ⟨v1, vs1, d1, ds1, p1, q1, rfl, rfl, rfl, h1, r1⟩ := trodAll_cons r0
  obtain ⟨v2, vs2, d2, ds2, p2, q2, rfl, rfl, rfl, h2, r2⟩ := trodAll_cons r1
  obtain ⟨rfl, rfl, rfl⟩ := trodAll_nil r2
  obtain rfl : args = #[v0, v1, v2] := by cases args; simp_all
  obtain ⟨rfl, rfl⟩ := trodVars_none hV
  obtain ⟨N0, a0, cap0, bs0, rfl, hN0, hB0, hS0, hl0, hok0⟩ := open_sys (hval 0 24 v0 rfl rfl) h0
  obtain ⟨n1, rfl, hn1⟩ := open_num (hval 1 3 v1 rfl rfl) h1
  obtain ⟨n2, rfl, hn2⟩ := open_num (hval 2 3 v2 rfl rfl) h2
  refine (lineDistances_any W N0 a0 cap0 bs0 n1 n2 hN0 hl0 hB0).mono fun e W' ⟨he, hg⟩ => ?_
  subst he
  refine ⟨_, rfl, law_post hW' hg (by kernel_rfl) ?_ rfl rfl⟩
  intro t ht
  rw [Try.params7] at ht
  simp only [List.mem_cons, List.not_mem_nil, or_false] at ht
  rcases ht with rfl | rfl | rfl
  · exact argOk24
  · exact argOk3
  · exact argOk3

/-! The row's closed facts, each by itself. -/
theorem lineDistances_j0 : (Rows.lineDistancesRow.wf (OpenSpec.ofChange Rows.lineDistancesSpec)) = true := by kernel_rfl
theorem lineDistances_j3 : (Try.f7.params.all (Try.prog.readableRec ·)) = true := by kernel_rfl
theorem lineDistances_j4 : (namedTie Try.prog Rows.lineDistancesRow.named Rows.lineDistancesSpec.vars) = true := by kernel_rfl
theorem lineDistances_j5 : ((Rows.lineDistancesRow.stops == [])) = true := by kernel_rfl
theorem lineDistances_j7 : ((Rows.lineDistancesRow.knobs == [])) = true := by kernel_rfl
theorem lineDistances_j9 : ((Rows.lineDistancesRow.inPlace == Try.prog.inPlace 7)) = true := by kernel_rfl
theorem lineDistances_j10 : ((Rows.lineDistancesRow.unfollowed == Try.prog.unfollowed 7)) = true := by kernel_rfl
theorem lineDistances_j11 : ((Rows.lineDistancesRow.recurses == Try.prog.recurses 7)) = true := by kernel_rfl
theorem lineDistances_j12 : ((Rows.lineDistancesRow.named == Try.prog.varsNamed 7)) = true := by kernel_rfl
theorem lineDistances_j13 : ((Rows.lineDistancesRow.maps == (Try.f7.params.toList ++ Rows.lineDistancesSpec.plain.varTypes Try.prog).any (Try.prog.mapsRec ·))) = true := by kernel_rfl
theorem lineDistances_j14 : ((Rows.lineDistancesRow.ifaces == (Try.f7.params.toList ++ Rows.lineDistancesSpec.plain.varTypes Try.prog).any (Try.prog.ifacesRec ·))) = true := by kernel_rfl
theorem lineDistances_j15 : ((Rows.lineDistancesRow.mapsOut == Try.prog.mapsAmong Try.f7.resultTypes.toList)) = true := by kernel_rfl
theorem lineDistances_j16 : ((Rows.lineDistancesRow.loops == (Try.f7.params.toList ++ Rows.lineDistancesSpec.plain.varTypes Try.prog).any (Try.prog.loopsFrom ·))) = true := by kernel_rfl
theorem lineDistances_j17 : ((Rows.lineDistancesRow.wideKeys == (Try.f7.params.toList ++ Rows.lineDistancesSpec.plain.varTypes Try.prog ++ Try.f7.resultTypes.toList).any (Try.prog.wideKeysFrom ·))) = true := by kernel_rfl
theorem lineDistances_j18 : (Rows.lineDistancesSpec.vars.all (Try.prog.varReadable ·)) = true := by kernel_rfl
theorem lineDistances_j19 : (Try.f7.resultTypes.all (fun t => Try.prog.readableRec t && decide (t < Try.prog.types.size))) = true := by kernel_rfl
theorem lineDistances_j20 : ((Rows.lineDistancesRow.ifacesOut == Try.f7.resultTypes.toList.any (Try.prog.ifacesRec ·))) = true := by kernel_rfl
theorem lineDistances_j21 : ((Rows.lineDistancesRow.loopsOut == Try.f7.resultTypes.toList.any (Try.prog.loopsFrom ·))) = true := by kernel_rfl
theorem lineDistances_j22 : ((Rows.lineDistancesRow.plainKeys == Try.prog.plainKeys)) = true := by rw [Try.fact22]; rfl
theorem lineDistances_j23 : (Rows.lineDistancesRow.shortTexts.isNone) = true := by kernel_rfl
theorem lineDistances_j26 : ((Rows.lineDistancesRow.lifted == Try.prog.liftsFinal)) = true := by rw [Try.fact26]; rfl
theorem lineDistances_j27 : ((Try.prog.make == some Rows.lineDistancesRow.make)) = true := by rw [Try.fact27]; rfl
theorem lineDistances_j28 : ((Rows.lineDistancesRow.kinds == (if Rows.lineDistancesRow.domain.isEmpty then [] else Try.f7.params.toList.map fun t => match Try.prog.underlying t with | some (.int k) => some k | _ => none))) = true := by kernel_rfl
theorem lineDistances_j29 : ((Rows.lineDistancesRow.pinned == Rows.lineDistancesRow.pinnedBy)) = true := by kernel_rfl
theorem lineDistances_j30 : ((Rows.lineDistancesRow.veiled == (Try.f7.params.toList ++ Rows.lineDistancesSpec.plain.varTypes Try.prog ++ Try.f7.resultTypes.toList).any (Try.prog.veiledRec ·))) = true := by kernel_rfl
theorem lineDistances_j31 : (Rows.lineDistancesRow.veiledFits Try.prog Try.f7.params.toList (Try.f7.params.toList ++ Rows.lineDistancesSpec.plain.varTypes Try.prog ++ Try.f7.resultTypes.toList)) = true := by kernel_rfl
set_option maxRecDepth 100000 in
theorem lineDistances_closed : joinedFacts Try.prog 7 Try.f7 Rows.lineDistancesSpec Rows.lineDistancesRow = true := by
  unfold joinedFacts
  exact (and2 (and2 (and2 (and2 (and2 (and2 (and2 (and2 (and2 (and2 (and2 (and2 (and2 (and2 (and2 (and2 (and2 (and2 (and2 (and2 (and2 (and2 (and2 (and2 (and2 (and2 (and2 (and2 (and2 (and2 (and2 lineDistances_j0 Try.fact1) Try.fact2) lineDistances_j3) lineDistances_j4) lineDistances_j5) Try.fact6) lineDistances_j7) Try.fact8) lineDistances_j9) lineDistances_j10) lineDistances_j11) lineDistances_j12) lineDistances_j13) lineDistances_j14) lineDistances_j15) lineDistances_j16) lineDistances_j17) lineDistances_j18) lineDistances_j19) lineDistances_j20) lineDistances_j21) lineDistances_j22) lineDistances_j23) Try.fact24) Try.fact25) lineDistances_j26) lineDistances_j27) lineDistances_j28) lineDistances_j29) lineDistances_j30) lineDistances_j31)
theorem lineDistances_named : Try.prog.funcNamed Rows.lineDistancesRow.func = some 7 := by kernel_rfl
theorem lineDistances_instance : Try.f7.isInstance Try.prog Rows.lineDistancesRow.origin Rows.lineDistancesRow.targs := of_decide_eq_true (by kernel_rfl)
theorem lineDistances_wrapper : Try.f7.isWrapper Try.prog Rows.lineDistancesRow.wrapper Rows.lineDistancesRow.mainSum := by unfold Func.isWrapper; first | (rw [if_pos (by decide +kernel)]; kernel_rfl) | (rw [if_neg (by decide +kernel)]; exact ⟨rfl, rfl⟩)

set_option maxRecDepth 100000 in
theorem lineDistances_over : Rows.lineDistancesRow.holds Try.pinned (OpenSpec.ofChange Rows.lineDistancesSpec) :=
  OpenClaim.holds_of_wide 7 Try.f7 rfl rfl rfl rfl rfl rfl rfl ⟨rfl, rfl, rfl, rfl, rfl⟩ rfl rfl rfl rfl rfl lineDistances_named Try.func7 lineDistances_closed lineDistances_instance lineDistances_wrapper
    (fun os started H enc _ => lineDistances_lifted os started H enc)

/-- THE STATEMENT. -/
theorem lineDistances_holds : Rows.LineDistancesSaid := lineDistances_over

end Go.Proofs.Ytejbpoclfjkllaa
