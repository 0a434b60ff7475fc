/- The law LineEnds: for every input the call returns true, and its arguments read as before. No conditions. -/
import Derived.Test.YtejbpoclfjkllaaCZ2
import Derived.Test.YtejbpoclfjkllaaCFr
namespace Go.Proofs.Ytejbpoclfjkllaa
open Go Go.ChangeShapes Go.WideShapes Go.ChangeAt Go.RowKit

set_option maxRecDepth 100000 in
theorem lineEnds_lifted (os : Os) (started : os.Started) (H : Type) (enc : TypeId × Value → H) :
    ReturnsInHanded {} Try.checked os 6 .any (Rows.lineEndsSpec.pre6 enc Try.prog Try.f6 Rows.lineEndsRow.domain false) (Rows.lineEndsSpec.post enc Try.prog Try.f6 false true false false) := by
  refine returnsInHanded_of_change (C := Try.checked) Try.own started (by kernel_rfl) Try.func6
    (ChangeSpec.witness6 (enc := enc) (C := Try.checked) false ⟨#[], #[.agg #[.int .i64 0, .slice none 0 0], .int .i64 0, .int .i64 0], []⟩ 8 (by kernel_rfl) (by kernel_rfl) (by kernel_rfl) (by kernel_rfl)) ?_
  intro W base args ds gs before hval0 hW hcnd _
  have hval : ∀ (j : Nat) t v, Try.f6.params[j]? = some t → args[j]? = some v → Value.okWide Try.prog W .any base t v := hval0
  have hW' := hW
  obtain ⟨p, q, hA0, hV, rfl, hfz, hnd⟩ := hW
  have hA : DataW.TrodAll enc Try.prog W 0 (fun _ => true) true Try.f6.params.toList args.toList ds p := hA0
  rw [Try.params6] at hA hval
  obtain ⟨v0, vs0, d0, ds0, p0, q0, hargs, rfl, rfl, h0, r0⟩ := trodAll_cons hA
  obtain ⟨v1, vs1, d1, ds1, p1, q1, rfl, rfl, rfl, h1, r1⟩ := trodAll_cons r0
  obtain ⟨v2, vs2, d2, ds2, p2, q2, rfl, rfl, rfl, h2, r2⟩ := trodAll_cons r1
  obtain ⟨rfl, rfl, rfl⟩ := trodAll_nil r2
  obtain rfl : args = #[v0, v1, v2] := by cases args; simp_all
  obtain ⟨rfl, rfl⟩ := trodVars_none hV
  obtain ⟨N0, a0, cap0, bs0, rfl, hN0, hB0, hS0, hl0, hok0⟩ := open_sys (hval 0 24 v0 rfl rfl) h0
  obtain ⟨n1, rfl, hn1⟩ := open_num (hval 1 3 v1 rfl rfl) h1
  obtain ⟨n2, rfl, hn2⟩ := open_num (hval 2 3 v2 rfl rfl) h2
  refine (lineEnds_any W N0 a0 cap0 bs0 n1 n2 hN0 hl0 hB0).mono fun e W' ⟨he, hg⟩ => ?_
  subst he
  refine ⟨_, rfl, law_post hW' hg (by kernel_rfl) ?_ rfl rfl⟩
  intro t ht
  rw [Try.params6] at ht
  simp only [List.mem_cons, List.not_mem_nil, or_false] at ht
  rcases ht with rfl | rfl | rfl
  · exact argOk24
  · exact argOk3
  · exact argOk3

/-! The row's closed facts, each by itself. -/
theorem lineEnds_j0 : (Rows.lineEndsRow.wf (OpenSpec.ofChange Rows.lineEndsSpec)) = true := by kernel_rfl
theorem lineEnds_j3 : (Try.f6.params.all (Try.prog.readableRec ·)) = true := by kernel_rfl
theorem lineEnds_j4 : (namedTie Try.prog Rows.lineEndsRow.named Rows.lineEndsSpec.vars) = true := by kernel_rfl
theorem lineEnds_j5 : ((Rows.lineEndsRow.stops == [])) = true := by kernel_rfl
theorem lineEnds_j7 : ((Rows.lineEndsRow.knobs == [])) = true := by kernel_rfl
theorem lineEnds_j9 : ((Rows.lineEndsRow.inPlace == Try.prog.inPlace 6)) = true := by kernel_rfl
theorem lineEnds_j10 : ((Rows.lineEndsRow.unfollowed == Try.prog.unfollowed 6)) = true := by kernel_rfl
theorem lineEnds_j11 : ((Rows.lineEndsRow.recurses == Try.prog.recurses 6)) = true := by kernel_rfl
theorem lineEnds_j12 : ((Rows.lineEndsRow.named == Try.prog.varsNamed 6)) = true := by kernel_rfl
theorem lineEnds_j13 : ((Rows.lineEndsRow.maps == (Try.f6.params.toList ++ Rows.lineEndsSpec.plain.varTypes Try.prog).any (Try.prog.mapsRec ·))) = true := by kernel_rfl
theorem lineEnds_j14 : ((Rows.lineEndsRow.ifaces == (Try.f6.params.toList ++ Rows.lineEndsSpec.plain.varTypes Try.prog).any (Try.prog.ifacesRec ·))) = true := by kernel_rfl
theorem lineEnds_j15 : ((Rows.lineEndsRow.mapsOut == Try.prog.mapsAmong Try.f6.resultTypes.toList)) = true := by kernel_rfl
theorem lineEnds_j16 : ((Rows.lineEndsRow.loops == (Try.f6.params.toList ++ Rows.lineEndsSpec.plain.varTypes Try.prog).any (Try.prog.loopsFrom ·))) = true := by kernel_rfl
theorem lineEnds_j17 : ((Rows.lineEndsRow.wideKeys == (Try.f6.params.toList ++ Rows.lineEndsSpec.plain.varTypes Try.prog ++ Try.f6.resultTypes.toList).any (Try.prog.wideKeysFrom ·))) = true := by kernel_rfl
theorem lineEnds_j18 : (Rows.lineEndsSpec.vars.all (Try.prog.varReadable ·)) = true := by kernel_rfl
theorem lineEnds_j19 : (Try.f6.resultTypes.all (fun t => Try.prog.readableRec t && decide (t < Try.prog.types.size))) = true := by kernel_rfl
theorem lineEnds_j20 : ((Rows.lineEndsRow.ifacesOut == Try.f6.resultTypes.toList.any (Try.prog.ifacesRec ·))) = true := by kernel_rfl
theorem lineEnds_j21 : ((Rows.lineEndsRow.loopsOut == Try.f6.resultTypes.toList.any (Try.prog.loopsFrom ·))) = true := by kernel_rfl
theorem lineEnds_j22 : ((Rows.lineEndsRow.plainKeys == Try.prog.plainKeys)) = true := by rw [Try.fact22]; rfl
theorem lineEnds_j23 : (Rows.lineEndsRow.shortTexts.isNone) = true := by kernel_rfl
theorem lineEnds_j26 : ((Rows.lineEndsRow.lifted == Try.prog.liftsFinal)) = true := by rw [Try.fact26]; rfl
theorem lineEnds_j27 : ((Try.prog.make == some Rows.lineEndsRow.make)) = true := by rw [Try.fact27]; rfl
theorem lineEnds_j28 : ((Rows.lineEndsRow.kinds == (if Rows.lineEndsRow.domain.isEmpty then [] else Try.f6.params.toList.map fun t => match Try.prog.underlying t with | some (.int k) => some k | _ => none))) = true := by kernel_rfl
theorem lineEnds_j29 : ((Rows.lineEndsRow.pinned == Rows.lineEndsRow.pinnedBy)) = true := by kernel_rfl
theorem lineEnds_j30 : ((Rows.lineEndsRow.veiled == (Try.f6.params.toList ++ Rows.lineEndsSpec.plain.varTypes Try.prog ++ Try.f6.resultTypes.toList).any (Try.prog.veiledRec ·))) = true := by kernel_rfl
theorem lineEnds_j31 : (Rows.lineEndsRow.veiledFits Try.prog Try.f6.params.toList (Try.f6.params.toList ++ Rows.lineEndsSpec.plain.varTypes Try.prog ++ Try.f6.resultTypes.toList)) = true := by kernel_rfl
set_option maxRecDepth 100000 in
theorem lineEnds_closed : joinedFacts Try.prog 6 Try.f6 Rows.lineEndsSpec Rows.lineEndsRow = true := by
  unfold joinedFacts
  exact (and2 (and2 (and2 (and2 (and2 (and2 (and2 (and2 (and2 (and2 (and2 (and2 (and2 (and2 (and2 (and2 (and2 (and2 (and2 (and2 (and2 (and2 (and2 (and2 (and2 (and2 (and2 (and2 (and2 (and2 (and2 lineEnds_j0 Try.fact1) Try.fact2) lineEnds_j3) lineEnds_j4) lineEnds_j5) Try.fact6) lineEnds_j7) Try.fact8) lineEnds_j9) lineEnds_j10) lineEnds_j11) lineEnds_j12) lineEnds_j13) lineEnds_j14) lineEnds_j15) lineEnds_j16) lineEnds_j17) lineEnds_j18) lineEnds_j19) lineEnds_j20) lineEnds_j21) lineEnds_j22) lineEnds_j23) Try.fact24) Try.fact25) lineEnds_j26) lineEnds_j27) lineEnds_j28) lineEnds_j29) lineEnds_j30) lineEnds_j31)
theorem lineEnds_named : Try.prog.funcNamed Rows.lineEndsRow.func = some 6 := by kernel_rfl
theorem lineEnds_instance : Try.f6.isInstance Try.prog Rows.lineEndsRow.origin Rows.lineEndsRow.targs := of_decide_eq_true (by kernel_rfl)
theorem lineEnds_wrapper : Try.f6.isWrapper Try.prog Rows.lineEndsRow.wrapper Rows.lineEndsRow.mainSum := by unfold Func.isWrapper; first | (rw [if_pos (by decide +kernel)]; kernel_rfl) | (rw [if_neg (by decide +kernel)]; exact ⟨rfl, rfl⟩)

set_option maxRecDepth 100000 in
theorem lineEnds_over : Rows.lineEndsRow.holds Try.pinned (OpenSpec.ofChange Rows.lineEndsSpec) :=
  OpenClaim.holds_of_wide 6 Try.f6 rfl rfl rfl rfl rfl rfl rfl ⟨rfl, rfl, rfl, rfl, rfl⟩ rfl rfl rfl rfl rfl lineEnds_named Try.func6 lineEnds_closed lineEnds_instance lineEnds_wrapper
    (fun os started H enc _ => lineEnds_lifted os started H enc)

/-- THE STATEMENT. -/
theorem lineEnds_holds : Rows.LineEndsSaid := lineEnds_over

end Go.Proofs.Ytejbpoclfjkllaa
