/- The law LineMore: for every input the call returns true, and its arguments read as before. No conditions. -/
import Derived.Test.YtejbpoclfjkllaaCZc
import Derived.Test.YtejbpoclfjkllaaCFr
namespace Go.Proofs.Ytejbpoclfjkllaa
open Go Go.ChangeShapes Go.WideShapes Go.ChangeAt Go.RowKit

set_option maxRecDepth 100000 in
theorem lineMore_lifted (os : Os) (started : os.Started) (H : Type) (enc : TypeId × Value → H) :
    ReturnsInHanded {} Try.checked os 12 .any (Rows.lineMoreSpec.pre6 enc Try.prog Try.f12 Rows.lineMoreRow.domain false) (Rows.lineMoreSpec.post enc Try.prog Try.f12 false true false false) := by
  refine returnsInHanded_of_change (C := Try.checked) Try.own started (by kernel_rfl) Try.func12
    (ChangeSpec.witness6 (enc := enc) (C := Try.checked) false ⟨#[], #[.agg #[.int .i64 0, .slice none 0 0], .agg #[.int .i64 0, .slice none 0 0], .int .i64 0, .int .i64 0], []⟩ 8 (by kernel_rfl) (by kernel_rfl) (by kernel_rfl) (by kernel_rfl)) ?_
  intro W base args ds gs before hval0 hW hcnd _
  have hval : ∀ (j : Nat) t v, Try.f12.params[j]? = some t → args[j]? = some v → Value.okWide Try.prog W .any base t v := hval0
  have hW' := hW
  obtain ⟨p, q, hA0, hV, rfl, hfz, hnd⟩ := hW
  have hA : DataW.TrodAll enc Try.prog W 0 (fun _ => true) true Try.f12.params.toList args.toList ds p := hA0
  rw [Try.params12] at hA hval
  obtain ⟨v0, vs0, d0, ds0, p0, q0, hargs, rfl, rfl, h0, r0⟩ := trodAll_cons hA
  obtain ⟨v1, vs1, d1, ds1, p1, q1, rfl, rfl, rfl, h1, r1⟩ := trodAll_cons r0
  obtain ⟨v2, vs2, d2, ds2, p2, q2, rfl, rfl, rfl, h2, r2⟩ := trodAll_cons r1
  obtain ⟨v3, vs3, d3, ds3, p3, q3, rfl, rfl, rfl, h3, r3⟩ := trodAll_cons r2
  obtain ⟨rfl, rfl, rfl⟩ := trodAll_nil r3
  obtain rfl : args = #[v0, v1, v2, v3] := by cases args; simp_all
  obtain ⟨rfl, rfl⟩ := trodVars_none hV
  obtain ⟨N0, a0, cap0, bs0, rfl, hN0, hB0, hS0, hl0, hok0⟩ := open_sys (hval 0 24 v0 rfl rfl) h0
  obtain ⟨N1, a1, cap1, bs1, rfl, hN1, hB1, hS1, hl1, hok1⟩ := open_sys (hval 1 24 v1 rfl rfl) h1
  obtain ⟨n2, rfl, hn2⟩ := open_num (hval 2 3 v2 rfl rfl) h2
  obtain ⟨n3, rfl, hn3⟩ := open_num (hval 3 3 v3 rfl rfl) h3
  refine (lineMore_any W N0 a0 cap0 bs0 N1 a1 cap1 bs1 n2 n3 hN0 hl0 hB0 hN1 hl1 hB1).mono fun e W' ⟨he, hg⟩ => ?_
  subst he
  refine ⟨_, rfl, law_post hW' hg (by kernel_rfl) ?_ rfl rfl⟩
  intro t ht
  rw [Try.params12] at ht
  simp only [List.mem_cons, List.not_mem_nil, or_false] at ht
  rcases ht with rfl | rfl | rfl | rfl
  · exact argOk24
  · exact argOk24
  · exact argOk3
  · exact argOk3

/-! The row's closed facts, each by itself. -/
theorem lineMore_j0 : (Rows.lineMoreRow.wf (OpenSpec.ofChange Rows.lineMoreSpec)) = true := by kernel_rfl
theorem lineMore_j3 : (Try.f12.params.all (Try.prog.readableRec ·)) = true := by kernel_rfl
theorem lineMore_j4 : (namedTie Try.prog Rows.lineMoreRow.named Rows.lineMoreSpec.vars) = true := by kernel_rfl
theorem lineMore_j5 : ((Rows.lineMoreRow.stops == [])) = true := by kernel_rfl
theorem lineMore_j7 : ((Rows.lineMoreRow.knobs == [])) = true := by kernel_rfl
theorem lineMore_j9 : ((Rows.lineMoreRow.inPlace == Try.prog.inPlace 12)) = true := by kernel_rfl
theorem lineMore_j10 : ((Rows.lineMoreRow.unfollowed == Try.prog.unfollowed 12)) = true := by kernel_rfl
theorem lineMore_j11 : ((Rows.lineMoreRow.recurses == Try.prog.recurses 12)) = true := by kernel_rfl
theorem lineMore_j12 : ((Rows.lineMoreRow.named == Try.prog.varsNamed 12)) = true := by kernel_rfl
theorem lineMore_j13 : ((Rows.lineMoreRow.maps == (Try.f12.params.toList ++ Rows.lineMoreSpec.plain.varTypes Try.prog).any (Try.prog.mapsRec ·))) = true := by kernel_rfl
theorem lineMore_j14 : ((Rows.lineMoreRow.ifaces == (Try.f12.params.toList ++ Rows.lineMoreSpec.plain.varTypes Try.prog).any (Try.prog.ifacesRec ·))) = true := by kernel_rfl
theorem lineMore_j15 : ((Rows.lineMoreRow.mapsOut == Try.prog.mapsAmong Try.f12.resultTypes.toList)) = true := by kernel_rfl
theorem lineMore_j16 : ((Rows.lineMoreRow.loops == (Try.f12.params.toList ++ Rows.lineMoreSpec.plain.varTypes Try.prog).any (Try.prog.loopsFrom ·))) = true := by kernel_rfl
theorem lineMore_j17 : ((Rows.lineMoreRow.wideKeys == (Try.f12.params.toList ++ Rows.lineMoreSpec.plain.varTypes Try.prog ++ Try.f12.resultTypes.toList).any (Try.prog.wideKeysFrom ·))) = true := by kernel_rfl
theorem lineMore_j18 : (Rows.lineMoreSpec.vars.all (Try.prog.varReadable ·)) = true := by kernel_rfl
theorem lineMore_j19 : (Try.f12.resultTypes.all (fun t => Try.prog.readableRec t && decide (t < Try.prog.types.size))) = true := by kernel_rfl
theorem lineMore_j20 : ((Rows.lineMoreRow.ifacesOut == Try.f12.resultTypes.toList.any (Try.prog.ifacesRec ·))) = true := by kernel_rfl
theorem lineMore_j21 : ((Rows.lineMoreRow.loopsOut == Try.f12.resultTypes.toList.any (Try.prog.loopsFrom ·))) = true := by kernel_rfl
theorem lineMore_j22 : ((Rows.lineMoreRow.plainKeys == Try.prog.plainKeys)) = true := by rw [Try.fact22]; rfl
theorem lineMore_j23 : (Rows.lineMoreRow.shortTexts.isNone) = true := by kernel_rfl
theorem lineMore_j26 : ((Rows.lineMoreRow.lifted == Try.prog.liftsFinal)) = true := by rw [Try.fact26]; rfl
theorem lineMore_j27 : ((Try.prog.make == some Rows.lineMoreRow.make)) = true := by rw [Try.fact27]; rfl
theorem lineMore_j28 : ((Rows.lineMoreRow.kinds == (if Rows.lineMoreRow.domain.isEmpty then [] else Try.f12.params.toList.map fun t => match Try.prog.underlying t with | some (.int k) => some k | _ => none))) = true := by kernel_rfl
theorem lineMore_j29 : ((Rows.lineMoreRow.pinned == Rows.lineMoreRow.pinnedBy)) = true := by kernel_rfl
theorem lineMore_j30 : ((Rows.lineMoreRow.veiled == (Try.f12.params.toList ++ Rows.lineMoreSpec.plain.varTypes Try.prog ++ Try.f12.resultTypes.toList).any (Try.prog.veiledRec ·))) = true := by kernel_rfl
theorem lineMore_j31 : (Rows.lineMoreRow.veiledFits Try.prog Try.f12.params.toList (Try.f12.params.toList ++ Rows.lineMoreSpec.plain.varTypes Try.prog ++ Try.f12.resultTypes.toList)) = true := by kernel_rfl
set_option maxRecDepth 100000 in
theorem lineMore_closed : joinedFacts Try.prog 12 Try.f12 Rows.lineMoreSpec Rows.lineMoreRow = true := by
  unfold joinedFacts
  exact (and2 (and2 (and2 (and2 (and2 (and2 (and2 (and2 (and2 (and2 (and2 (and2 (and2 (and2 (and2 (and2 (and2 (and2 (and2 (and2 (and2 (and2 (and2 (and2 (and2 (and2 (and2 (and2 (and2 (and2 (and2 lineMore_j0 Try.fact1) Try.fact2) lineMore_j3) lineMore_j4) lineMore_j5) Try.fact6) lineMore_j7) Try.fact8) lineMore_j9) lineMore_j10) lineMore_j11) lineMore_j12) lineMore_j13) lineMore_j14) lineMore_j15) lineMore_j16) lineMore_j17) lineMore_j18) lineMore_j19) lineMore_j20) lineMore_j21) lineMore_j22) lineMore_j23) Try.fact24) Try.fact25) lineMore_j26) lineMore_j27) lineMore_j28) lineMore_j29) lineMore_j30) lineMore_j31)
theorem lineMore_named : Try.prog.funcNamed Rows.lineMoreRow.func = some 12 := by kernel_rfl
theorem lineMore_instance : Try.f12.isInstance Try.prog Rows.lineMoreRow.origin Rows.lineMoreRow.targs := of_decide_eq_true (by kernel_rfl)
theorem lineMore_wrapper : Try.f12.isWrapper Try.prog Rows.lineMoreRow.wrapper Rows.lineMoreRow.mainSum := by unfold Func.isWrapper; first | (rw [if_pos (by decide +kernel)]; kernel_rfl) | (rw [if_neg (by decide +kernel)]; exact ⟨rfl, rfl⟩)

set_option maxRecDepth 100000 in
theorem lineMore_over : Rows.lineMoreRow.holds Try.pinned (OpenSpec.ofChange Rows.lineMoreSpec) :=
  OpenClaim.holds_of_wide 12 Try.f12 rfl rfl rfl rfl rfl rfl rfl ⟨rfl, rfl, rfl, rfl, rfl⟩ rfl rfl rfl rfl rfl lineMore_named Try.func12 lineMore_closed lineMore_instance lineMore_wrapper
    (fun os started H enc _ => lineMore_lifted os started H enc)

/-- THE STATEMENT. -/
theorem lineMore_holds : Rows.LineMoreSaid := lineMore_over

end Go.Proofs.Ytejbpoclfjkllaa
