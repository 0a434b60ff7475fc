/- The law LineRigid: for every input the call returns true, and its arguments read as before. No conditions. -/
import Derived.Test.YtejbpoclfjkllaaCZn
import Derived.Test.YtejbpoclfjkllaaCFr
namespace Go.Proofs.Ytejbpoclfjkllaa
open Go Go.ChangeShapes Go.WideShapes Go.ChangeAt Go.RowKit

set_option maxRecDepth 100000 in
theorem lineRigid_lifted (os : Os) (started : os.Started) (H : Type) (enc : TypeId × Value → H) :
    ReturnsInHanded {} Try.checked os 15 .any (Rows.lineRigidSpec.pre6 enc Try.prog Try.f15 Rows.lineRigidRow.domain false) (Rows.lineRigidSpec.post enc Try.prog Try.f15 false true false false) := by
  refine returnsInHanded_of_change (C := Try.checked) Try.own started (by kernel_rfl) Try.func15
    (ChangeSpec.witness6 (enc := enc) (C := Try.checked) false ⟨#[], #[.agg #[.int .i64 0, .slice none 0 0]], []⟩ 8 (by kernel_rfl) (by kernel_rfl) (by kernel_rfl) (by kernel_rfl)) ?_
  intro W base args ds gs before hval0 hW hcnd _
  have hval : ∀ (j : Nat) t v, Try.f15.params[j]? = some t → args[j]? = some v → Value.okWide Try.prog W .any base t v := hval0
  have hW' := hW
  obtain ⟨p, q, hA0, hV, rfl, hfz, hnd⟩ := hW
  have hA : DataW.TrodAll enc Try.prog W 0 (fun _ => true) true Try.f15.params.toList args.toList ds p := hA0
  rw [Try.params15] at hA hval
  obtain ⟨v0, vs0, d0, ds0, p0, q0, hargs, rfl, rfl, h0, r0⟩ := trodAll_cons hA
  obtain ⟨rfl, rfl, rfl⟩ := trodAll_nil r0
  obtain rfl : args = #[v0] := by cases args; simp_all
  obtain ⟨rfl, rfl⟩ := trodVars_none hV
  obtain ⟨N0, a0, cap0, bs0, rfl, hN0, hB0, hS0, hl0, hok0⟩ := open_sys (hval 0 24 v0 rfl rfl) h0
  refine (lineRigid_any W N0 a0 cap0 bs0 hN0 hl0 hB0).mono fun e W' ⟨he, hg⟩ => ?_
  subst he
  refine ⟨_, rfl, law_post hW' hg (by kernel_rfl) ?_ rfl rfl⟩
  intro t ht
  rw [Try.params15] at ht
  simp only [List.mem_cons, List.not_mem_nil, or_false] at ht
  rcases ht with rfl
  · exact argOk24

/-! The row's closed facts, each by itself. -/
theorem lineRigid_j0 : (Rows.lineRigidRow.wf (OpenSpec.ofChange Rows.lineRigidSpec)) = true := by kernel_rfl
theorem lineRigid_j3 : (Try.f15.params.all (Try.prog.readableRec ·)) = true := by kernel_rfl
theorem lineRigid_j4 : (namedTie Try.prog Rows.lineRigidRow.named Rows.lineRigidSpec.vars) = true := by kernel_rfl
theorem lineRigid_j5 : ((Rows.lineRigidRow.stops == [])) = true := by kernel_rfl
theorem lineRigid_j7 : ((Rows.lineRigidRow.knobs == [])) = true := by kernel_rfl
theorem lineRigid_j9 : ((Rows.lineRigidRow.inPlace == Try.prog.inPlace 15)) = true := by kernel_rfl
theorem lineRigid_j10 : ((Rows.lineRigidRow.unfollowed == Try.prog.unfollowed 15)) = true := by kernel_rfl
theorem lineRigid_j11 : ((Rows.lineRigidRow.recurses == Try.prog.recurses 15)) = true := by kernel_rfl
theorem lineRigid_j12 : ((Rows.lineRigidRow.named == Try.prog.varsNamed 15)) = true := by kernel_rfl
theorem lineRigid_j13 : ((Rows.lineRigidRow.maps == (Try.f15.params.toList ++ Rows.lineRigidSpec.plain.varTypes Try.prog).any (Try.prog.mapsRec ·))) = true := by kernel_rfl
theorem lineRigid_j14 : ((Rows.lineRigidRow.ifaces == (Try.f15.params.toList ++ Rows.lineRigidSpec.plain.varTypes Try.prog).any (Try.prog.ifacesRec ·))) = true := by kernel_rfl
theorem lineRigid_j15 : ((Rows.lineRigidRow.mapsOut == Try.prog.mapsAmong Try.f15.resultTypes.toList)) = true := by kernel_rfl
theorem lineRigid_j16 : ((Rows.lineRigidRow.loops == (Try.f15.params.toList ++ Rows.lineRigidSpec.plain.varTypes Try.prog).any (Try.prog.loopsFrom ·))) = true := by kernel_rfl
theorem lineRigid_j17 : ((Rows.lineRigidRow.wideKeys == (Try.f15.params.toList ++ Rows.lineRigidSpec.plain.varTypes Try.prog ++ Try.f15.resultTypes.toList).any (Try.prog.wideKeysFrom ·))) = true := by kernel_rfl
theorem lineRigid_j18 : (Rows.lineRigidSpec.vars.all (Try.prog.varReadable ·)) = true := by kernel_rfl
theorem lineRigid_j19 : (Try.f15.resultTypes.all (fun t => Try.prog.readableRec t && decide (t < Try.prog.types.size))) = true := by kernel_rfl
theorem lineRigid_j20 : ((Rows.lineRigidRow.ifacesOut == Try.f15.resultTypes.toList.any (Try.prog.ifacesRec ·))) = true := by kernel_rfl
theorem lineRigid_j21 : ((Rows.lineRigidRow.loopsOut == Try.f15.resultTypes.toList.any (Try.prog.loopsFrom ·))) = true := by kernel_rfl
theorem lineRigid_j22 : ((Rows.lineRigidRow.plainKeys == Try.prog.plainKeys)) = true := by rw [Try.fact22]; rfl
theorem lineRigid_j23 : (Rows.lineRigidRow.shortTexts.isNone) = true := by kernel_rfl
theorem lineRigid_j26 : ((Rows.lineRigidRow.lifted == Try.prog.liftsFinal)) = true := by rw [Try.fact26]; rfl
theorem lineRigid_j27 : ((Try.prog.make == some Rows.lineRigidRow.make)) = true := by rw [Try.fact27]; rfl
theorem lineRigid_j28 : ((Rows.lineRigidRow.kinds == (if Rows.lineRigidRow.domain.isEmpty then [] else Try.f15.params.toList.map fun t => match Try.prog.underlying t with | some (.int k) => some k | _ => none))) = true := by kernel_rfl
theorem lineRigid_j29 : ((Rows.lineRigidRow.pinned == Rows.lineRigidRow.pinnedBy)) = true := by kernel_rfl
theorem lineRigid_j30 : ((Rows.lineRigidRow.veiled == (Try.f15.params.toList ++ Rows.lineRigidSpec.plain.varTypes Try.prog ++ Try.f15.resultTypes.toList).any (Try.prog.veiledRec ·))) = true := by kernel_rfl
theorem lineRigid_j31 : (Rows.lineRigidRow.veiledFits Try.prog Try.f15.params.toList (Try.f15.params.toList ++ Rows.lineRigidSpec.plain.varTypes Try.prog ++ Try.f15.resultTypes.toList)) = true := by kernel_rfl
set_option maxRecDepth 100000 in
theorem lineRigid_closed : joinedFacts Try.prog 15 Try.f15 Rows.lineRigidSpec Rows.lineRigidRow = true := by
  unfold joinedFacts
  exact (and2 (and2 (and2 (and2 (and2 (and2 (and2 (and2 (and2 (and2 (and2 (and2 (and2 (and2 (and2 (and2 (and2 (and2 (and2 (and2 (and2 (and2 (and2 (and2 (and2 (and2 (and2 (and2 (and2 (and2 (and2 lineRigid_j0 Try.fact1) Try.fact2) lineRigid_j3) lineRigid_j4) lineRigid_j5) Try.fact6) lineRigid_j7) Try.fact8) lineRigid_j9) lineRigid_j10) lineRigid_j11) lineRigid_j12) lineRigid_j13) lineRigid_j14) lineRigid_j15) lineRigid_j16) lineRigid_j17) lineRigid_j18) lineRigid_j19) lineRigid_j20) lineRigid_j21) lineRigid_j22) lineRigid_j23) Try.fact24) Try.fact25) lineRigid_j26) lineRigid_j27) lineRigid_j28) lineRigid_j29) lineRigid_j30) lineRigid_j31)
theorem lineRigid_named : Try.prog.funcNamed Rows.lineRigidRow.func = some 15 := by kernel_rfl
theorem lineRigid_instance : Try.f15.isInstance Try.prog Rows.lineRigidRow.origin Rows.lineRigidRow.targs := of_decide_eq_true (by kernel_rfl)
theorem lineRigid_wrapper : Try.f15.isWrapper Try.prog Rows.lineRigidRow.wrapper Rows.lineRigidRow.mainSum := by unfold Func.isWrapper; first | (rw [if_pos (by decide +kernel)]; kernel_rfl) | (rw [if_neg (by decide +kernel)]; exact ⟨rfl, rfl⟩)

set_option maxRecDepth 100000 in
theorem lineRigid_over : Rows.lineRigidRow.holds Try.pinned (OpenSpec.ofChange Rows.lineRigidSpec) :=
  OpenClaim.holds_of_wide 15 Try.f15 rfl rfl rfl rfl rfl rfl rfl ⟨rfl, rfl, rfl, rfl, rfl⟩ rfl rfl rfl rfl rfl lineRigid_named Try.func15 lineRigid_closed lineRigid_instance lineRigid_wrapper
    (fun os started H enc _ => lineRigid_lifted os started H enc)

/-- THE STATEMENT. -/
theorem lineRigid_holds : Rows.LineRigidSaid := lineRigid_over

end Go.Proofs.Ytejbpoclfjkllaa
