/- The law LineLattice: for every input the call returns true, and its arguments read as before. No conditions. -/
import Derived.Test.YtejbpoclfjkllaaCZf
import Derived.Test.YtejbpoclfjkllaaCFr
namespace Go.Proofs.Ytejbpoclfjkllaa
open Go Go.ChangeShapes Go.WideShapes Go.ChangeAt Go.RowKit

set_option maxRecDepth 100000 in
theorem lineLattice_lifted (os : Os) (started : os.Started) (H : Type) (enc : TypeId × Value → H) :
    ReturnsInHanded {} Try.checked os 17 .any (Rows.lineLatticeSpec.pre6 enc Try.prog Try.f17 Rows.lineLatticeRow.domain false) (Rows.lineLatticeSpec.post enc Try.prog Try.f17 false true false false) := by
  refine returnsInHanded_of_change (C := Try.checked) Try.own started (by kernel_rfl) Try.func17
    (ChangeSpec.witness6 (enc := enc) (C := Try.checked) false ⟨#[], #[.agg #[.int .i64 0, .slice none 0 0], .slice none 0 0, .slice none 0 0], []⟩ 8 (by kernel_rfl) (by kernel_rfl) (by kernel_rfl) (by kernel_rfl)) ?_
  intro W base args ds gs before hval0 hW hcnd _
  have hval : ∀ (j : Nat) t v, Try.f17.params[j]? = some t → args[j]? = some v → Value.okWide Try.prog W .any base t v := hval0
  have hW' := hW
  obtain ⟨p, q, hA0, hV, rfl, hfz, hnd⟩ := hW
  have hA : DataW.TrodAll enc Try.prog W 0 (fun _ => true) true Try.f17.params.toList args.toList ds p := hA0
  rw [Try.params17] at hA hval
  obtain ⟨v0, vs0, d0, ds0, p0, q0, hargs, rfl, rfl, h0, r0⟩ := trodAll_cons hA
  obtain ⟨v1, vs1, d1, ds1, p1, q1, rfl, rfl, rfl, h1, r1⟩ := trodAll_cons r0
  obtain ⟨v2, vs2, d2, ds2, p2, q2, rfl, rfl, rfl, h2, r2⟩ := trodAll_cons r1
  obtain ⟨rfl, rfl, rfl⟩ := trodAll_nil r2
  obtain rfl : args = #[v0, v1, v2] := by cases args; simp_all
  obtain ⟨rfl, rfl⟩ := trodVars_none hV
  obtain ⟨N0, a0, cap0, bs0, rfl, hN0, hB0, hS0, hl0, hok0⟩ := open_sys (hval 0 24 v0 rfl rfl) h0
  obtain ⟨a1, cap1, y1, rfl, hY1, hZ1, hm1, hyo1⟩ := open_list (hval 1 27 v1 rfl rfl) h1
  obtain ⟨a2, cap2, y2, rfl, hY2, hZ2, hm2, hyo2⟩ := open_list (hval 2 27 v2 rfl rfl) h2
  refine (lineLattice_any W N0 a0 cap0 bs0 a1 cap1 y1 a2 cap2 y2 hN0 hl0 hm1 hm2 hB0 hY1 hY2).mono fun e W' ⟨he, hg⟩ => ?_
  subst he
  refine ⟨_, rfl, law_post hW' hg (by kernel_rfl) ?_ rfl rfl⟩
  intro t ht
  rw [Try.params17] at ht
  simp only [List.mem_cons, List.not_mem_nil, or_false] at ht
  rcases ht with rfl | rfl | rfl
  · exact argOk24
  · exact argOk27
  · exact argOk27

/-! The row's closed facts, each by itself. -/
theorem lineLattice_j0 : (Rows.lineLatticeRow.wf (OpenSpec.ofChange Rows.lineLatticeSpec)) = true := by kernel_rfl
theorem lineLattice_j3 : (Try.f17.params.all (Try.prog.readableRec ·)) = true := by kernel_rfl
theorem lineLattice_j4 : (namedTie Try.prog Rows.lineLatticeRow.named Rows.lineLatticeSpec.vars) = true := by kernel_rfl
theorem lineLattice_j5 : ((Rows.lineLatticeRow.stops == [])) = true := by kernel_rfl
theorem lineLattice_j7 : ((Rows.lineLatticeRow.knobs == [])) = true := by kernel_rfl
theorem lineLattice_j9 : ((Rows.lineLatticeRow.inPlace == Try.prog.inPlace 17)) = true := by kernel_rfl
theorem lineLattice_j10 : ((Rows.lineLatticeRow.unfollowed == Try.prog.unfollowed 17)) = true := by kernel_rfl
theorem lineLattice_j11 : ((Rows.lineLatticeRow.recurses == Try.prog.recurses 17)) = true := by kernel_rfl
theorem lineLattice_j12 : ((Rows.lineLatticeRow.named == Try.prog.varsNamed 17)) = true := by kernel_rfl
theorem lineLattice_j13 : ((Rows.lineLatticeRow.maps == (Try.f17.params.toList ++ Rows.lineLatticeSpec.plain.varTypes Try.prog).any (Try.prog.mapsRec ·))) = true := by kernel_rfl
theorem lineLattice_j14 : ((Rows.lineLatticeRow.ifaces == (Try.f17.params.toList ++ Rows.lineLatticeSpec.plain.varTypes Try.prog).any (Try.prog.ifacesRec ·))) = true := by kernel_rfl
theorem lineLattice_j15 : ((Rows.lineLatticeRow.mapsOut == Try.prog.mapsAmong Try.f17.resultTypes.toList)) = true := by kernel_rfl
theorem lineLattice_j16 : ((Rows.lineLatticeRow.loops == (Try.f17.params.toList ++ Rows.lineLatticeSpec.plain.varTypes Try.prog).any (Try.prog.loopsFrom ·))) = true := by kernel_rfl
theorem lineLattice_j17 : ((Rows.lineLatticeRow.wideKeys == (Try.f17.params.toList ++ Rows.lineLatticeSpec.plain.varTypes Try.prog ++ Try.f17.resultTypes.toList).any (Try.prog.wideKeysFrom ·))) = true := by kernel_rfl
theorem lineLattice_j18 : (Rows.lineLatticeSpec.vars.all (Try.prog.varReadable ·)) = true := by kernel_rfl
theorem lineLattice_j19 : (Try.f17.resultTypes.all (fun t => Try.prog.readableRec t && decide (t < Try.prog.types.size))) = true := by kernel_rfl
theorem lineLattice_j20 : ((Rows.lineLatticeRow.ifacesOut == Try.f17.resultTypes.toList.any (Try.prog.ifacesRec ·))) = true := by kernel_rfl
theorem lineLattice_j21 : ((Rows.lineLatticeRow.loopsOut == Try.f17.resultTypes.toList.any (Try.prog.loopsFrom ·))) = true := by kernel_rfl
theorem lineLattice_j22 : ((Rows.lineLatticeRow.plainKeys == Try.prog.plainKeys)) = true := by rw [Try.fact22]; rfl
theorem lineLattice_j23 : (Rows.lineLatticeRow.shortTexts.isNone) = true := by kernel_rfl
theorem lineLattice_j26 : ((Rows.lineLatticeRow.lifted == Try.prog.liftsFinal)) = true := by rw [Try.fact26]; rfl
theorem lineLattice_j27 : ((Try.prog.make == some Rows.lineLatticeRow.make)) = true := by rw [Try.fact27]; rfl
theorem lineLattice_j28 : ((Rows.lineLatticeRow.kinds == (if Rows.lineLatticeRow.domain.isEmpty then [] else Try.f17.params.toList.map fun t => match Try.prog.underlying t with | some (.int k) => some k | _ => none))) = true := by kernel_rfl
theorem lineLattice_j29 : ((Rows.lineLatticeRow.pinned == Rows.lineLatticeRow.pinnedBy)) = true := by kernel_rfl
theorem lineLattice_j30 : ((Rows.lineLatticeRow.veiled == (Try.f17.params.toList ++ Rows.lineLatticeSpec.plain.varTypes Try.prog ++ Try.f17.resultTypes.toList).any (Try.prog.veiledRec ·))) = true := by kernel_rfl
theorem lineLattice_j31 : (Rows.lineLatticeRow.veiledFits Try.prog Try.f17.params.toList (Try.f17.params.toList ++ Rows.lineLatticeSpec.plain.varTypes Try.prog ++ Try.f17.resultTypes.toList)) = true := by kernel_rfl
set_option maxRecDepth 100000 in
theorem lineLattice_closed : joinedFacts Try.prog 17 Try.f17 Rows.lineLatticeSpec Rows.lineLatticeRow = true := by
  unfold joinedFacts
  exact (and2 (and2 (and2 (and2 (and2 (and2 (and2 (and2 (and2 (and2 (and2 (and2 (and2 (and2 (and2 (and2 (and2 (and2 (and2 (and2 (and2 (and2 (and2 (and2 (and2 (and2 (and2 (and2 (and2 (and2 (and2 lineLattice_j0 Try.fact1) Try.fact2) lineLattice_j3) lineLattice_j4) lineLattice_j5) Try.fact6) lineLattice_j7) Try.fact8) lineLattice_j9) lineLattice_j10) lineLattice_j11) lineLattice_j12) lineLattice_j13) lineLattice_j14) lineLattice_j15) lineLattice_j16) lineLattice_j17) lineLattice_j18) lineLattice_j19) lineLattice_j20) lineLattice_j21) lineLattice_j22) lineLattice_j23) Try.fact24) Try.fact25) lineLattice_j26) lineLattice_j27) lineLattice_j28) lineLattice_j29) lineLattice_j30) lineLattice_j31)
theorem lineLattice_named : Try.prog.funcNamed Rows.lineLatticeRow.func = some 17 := by kernel_rfl
theorem lineLattice_instance : Try.f17.isInstance Try.prog Rows.lineLatticeRow.origin Rows.lineLatticeRow.targs := of_decide_eq_true (by kernel_rfl)
theorem lineLattice_wrapper : Try.f17.isWrapper Try.prog Rows.lineLatticeRow.wrapper Rows.lineLatticeRow.mainSum := by unfold Func.isWrapper; first | (rw [if_pos (by decide +kernel)]; kernel_rfl) | (rw [if_neg (by decide +kernel)]; exact ⟨rfl, rfl⟩)

set_option maxRecDepth 100000 in
theorem lineLattice_over : Rows.lineLatticeRow.holds Try.pinned (OpenSpec.ofChange Rows.lineLatticeSpec) :=
  OpenClaim.holds_of_wide 17 Try.f17 rfl rfl rfl rfl rfl rfl rfl ⟨rfl, rfl, rfl, rfl, rfl⟩ rfl rfl rfl rfl rfl lineLattice_named Try.func17 lineLattice_closed lineLattice_instance lineLattice_wrapper
    (fun os started H enc _ => lineLattice_lifted os started H enc)

/-- THE STATEMENT. -/
theorem lineLattice_holds : Rows.LineLatticeSaid := lineLattice_over

end Go.Proofs.Ytejbpoclfjkllaa
