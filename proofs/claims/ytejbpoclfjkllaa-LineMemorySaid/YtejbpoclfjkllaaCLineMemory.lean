/- The law LineMemory: for every input the call returns true, and its arguments read as before. No conditions. -/
import Derived.Test.YtejbpoclfjkllaaCZw
import Derived.Test.YtejbpoclfjkllaaCFr
namespace Go.Proofs.Ytejbpoclfjkllaa
open Go Go.ChangeShapes Go.WideShapes Go.ChangeAt Go.RowKit

set_option maxRecDepth 100000 in
theorem lineMemory_lifted (os : Os) (started : os.Started) (H : Type) (enc : TypeId × Value → H) :
    ReturnsInHanded {} Try.checked os 18 .any (Rows.lineMemorySpec.pre6 enc Try.prog Try.f18 Rows.lineMemoryRow.domain false) (Rows.lineMemorySpec.post enc Try.prog Try.f18 false true false false) := by
  refine returnsInHanded_of_change (C := Try.checked) Try.own started (by kernel_rfl) Try.func18
    (ChangeSpec.witness6 (enc := enc) (C := Try.checked) false ⟨#[], #[.agg #[.int .i64 0, .slice none 0 0], .slice none 0 0, .int .i64 0, .int .i64 0], []⟩ 8 (by kernel_rfl) (by kernel_rfl) (by kernel_rfl) (by kernel_rfl)) ?_
  intro W base args ds gs before hval0 hW hcnd _
  have hval : ∀ (j : Nat) t v, Try.f18.params[j]? = some t → args[j]? = some v → Value.okWide Try.prog W .any base t v := hval0
  have hW' := hW
  obtain ⟨p, q, hA0, hV, rfl, hfz, hnd⟩ := hW
  have hA : DataW.TrodAll enc Try.prog W 0 (fun _ => true) true Try.f18.params.toList args.toList ds p := hA0
  rw [Try.params18] at hA hval
  obtain ⟨v0, vs0, d0, ds0, p0, q0, hargs, rfl, rfl, h0, r0⟩ := trodAll_cons hA
  obtain ⟨v1, vs1, d1, ds1, p1, q1, rfl, rfl, rfl, h1, r1⟩ := trodAll_cons r0
  obtain ⟨v2, vs2, d2, ds2, p2, q2, rfl, rfl, rfl, h2, r2⟩ := trodAll_cons r1
  obtain ⟨v3, vs3, d3, ds3, p3, q3, rfl, rfl, rfl, h3, r3⟩ := trodAll_cons r2
  obtain ⟨rfl, rfl, rfl⟩ := trodAll_nil r3
  obtain rfl : args = #[v0, v1, v2, v3] := by cases args; simp_all
  obtain ⟨rfl, rfl⟩ := trodVars_none hV
  obtain ⟨N0, a0, cap0, bs0, rfl, hN0, hB0, hS0, hl0, hok0⟩ := open_sys (hval 0 24 v0 rfl rfl) h0
  obtain ⟨a1, cap1, y1, rfl, hY1, hZ1, hm1, hyo1⟩ := open_list (hval 1 27 v1 rfl rfl) h1
  obtain ⟨n2, rfl, hn2⟩ := open_num (hval 2 3 v2 rfl rfl) h2
  obtain ⟨n3, rfl, hn3⟩ := open_num (hval 3 3 v3 rfl rfl) h3
  refine (lineMemory_any W N0 a0 cap0 bs0 a1 cap1 y1 n2 n3 hN0 hl0 hB0 hS0 hm1 hY1).mono fun e W' ⟨he, hg⟩ => ?_
  subst he
  refine ⟨_, rfl, law_post hW' hg (by kernel_rfl) ?_ rfl rfl⟩
  intro t ht
  rw [Try.params18] at ht
  simp only [List.mem_cons, List.not_mem_nil, or_false] at ht
  rcases ht with rfl | rfl | rfl | rfl
  · exact argOk24
  · exact argOk27
  · exact argOk3
  · exact argOk3

/-! The row's closed facts, each by itself. -/
theorem lineMemory_j0 : (Rows.lineMemoryRow.wf (OpenSpec.ofChange Rows.lineMemorySpec)) = true := by kernel_rfl
theorem lineMemory_j3 : (Try.f18.params.all (Try.prog.readableRec ·)) = true := by kernel_rfl
theorem lineMemory_j4 : (namedTie Try.prog Rows.lineMemoryRow.named Rows.lineMemorySpec.vars) = true := by kernel_rfl
theorem lineMemory_j5 : ((Rows.lineMemoryRow.stops == [])) = true := by kernel_rfl
theorem lineMemory_j7 : ((Rows.lineMemoryRow.knobs == [])) = true := by kernel_rfl
theorem lineMemory_j9 : ((Rows.lineMemoryRow.inPlace == Try.prog.inPlace 18)) = true := by kernel_rfl
theorem lineMemory_j10 : ((Rows.lineMemoryRow.unfollowed == Try.prog.unfollowed 18)) = true := by kernel_rfl
theorem lineMemory_j11 : ((Rows.lineMemoryRow.recurses == Try.prog.recurses 18)) = true := by kernel_rfl
theorem lineMemory_j12 : ((Rows.lineMemoryRow.named == Try.prog.varsNamed 18)) = true := by kernel_rfl
theorem lineMemory_j13 : ((Rows.lineMemoryRow.maps == (Try.f18.params.toList ++ Rows.lineMemorySpec.plain.varTypes Try.prog).any (Try.prog.mapsRec ·))) = true := by kernel_rfl
theorem lineMemory_j14 : ((Rows.lineMemoryRow.ifaces == (Try.f18.params.toList ++ Rows.lineMemorySpec.plain.varTypes Try.prog).any (Try.prog.ifacesRec ·))) = true := by kernel_rfl
theorem lineMemory_j15 : ((Rows.lineMemoryRow.mapsOut == Try.prog.mapsAmong Try.f18.resultTypes.toList)) = true := by kernel_rfl
theorem lineMemory_j16 : ((Rows.lineMemoryRow.loops == (Try.f18.params.toList ++ Rows.lineMemorySpec.plain.varTypes Try.prog).any (Try.prog.loopsFrom ·))) = true := by kernel_rfl
theorem lineMemory_j17 : ((Rows.lineMemoryRow.wideKeys == (Try.f18.params.toList ++ Rows.lineMemorySpec.plain.varTypes Try.prog ++ Try.f18.resultTypes.toList).any (Try.prog.wideKeysFrom ·))) = true := by kernel_rfl
theorem lineMemory_j18 : (Rows.lineMemorySpec.vars.all (Try.prog.varReadable ·)) = true := by kernel_rfl
theorem lineMemory_j19 : (Try.f18.resultTypes.all (fun t => Try.prog.readableRec t && decide (t < Try.prog.types.size))) = true := by kernel_rfl
theorem lineMemory_j20 : ((Rows.lineMemoryRow.ifacesOut == Try.f18.resultTypes.toList.any (Try.prog.ifacesRec ·))) = true := by kernel_rfl
theorem lineMemory_j21 : ((Rows.lineMemoryRow.loopsOut == Try.f18.resultTypes.toList.any (Try.prog.loopsFrom ·))) = true := by kernel_rfl
theorem lineMemory_j22 : ((Rows.lineMemoryRow.plainKeys == Try.prog.plainKeys)) = true := by rw [Try.fact22]; rfl
theorem lineMemory_j23 : (Rows.lineMemoryRow.shortTexts.isNone) = true := by kernel_rfl
theorem lineMemory_j26 : ((Rows.lineMemoryRow.lifted == Try.prog.liftsFinal)) = true := by rw [Try.fact26]; rfl
theorem lineMemory_j27 : ((Try.prog.make == some Rows.lineMemoryRow.make)) = true := by rw [Try.fact27]; rfl
theorem lineMemory_j28 : ((Rows.lineMemoryRow.kinds == (if Rows.lineMemoryRow.domain.isEmpty then [] else Try.f18.params.toList.map fun t => match Try.prog.underlying t with | some (.int k) => some k | _ => none))) = true := by kernel_rfl
theorem lineMemory_j29 : ((Rows.lineMemoryRow.pinned == Rows.lineMemoryRow.pinnedBy)) = true := by kernel_rfl
theorem lineMemory_j30 : ((Rows.lineMemoryRow.veiled == (Try.f18.params.toList ++ Rows.lineMemorySpec.plain.varTypes Try.prog ++ Try.f18.resultTypes.toList).any (Try.prog.veiledRec ·))) = true := by kernel_rfl
theorem lineMemory_j31 : (Rows.lineMemoryRow.veiledFits Try.prog Try.f18.params.toList (Try.f18.params.toList ++ Rows.lineMemorySpec.plain.varTypes Try.prog ++ Try.f18.resultTypes.toList)) = true := by kernel_rfl
set_option maxRecDepth 100000 in
theorem lineMemory_closed : joinedFacts Try.prog 18 Try.f18 Rows.lineMemorySpec Rows.lineMemoryRow = true := by
  unfold joinedFacts
  exact (and2 (and2 (and2 (and2 (and2 (and2 (and2 (and2 (and2 (and2 (and2 (and2 (and2 (and2 (and2 (and2 (and2 (and2 (and2 (and2 (and2 (and2 (and2 (and2 (and2 (and2 (and2 (and2 (and2 (and2 (and2 lineMemory_j0 Try.fact1) Try.fact2) lineMemory_j3) lineMemory_j4) lineMemory_j5) Try.fact6) lineMemory_j7) Try.fact8) lineMemory_j9) lineMemory_j10) lineMemory_j11) lineMemory_j12) lineMemory_j13) lineMemory_j14) lineMemory_j15) lineMemory_j16) lineMemory_j17) lineMemory_j18) lineMemory_j19) lineMemory_j20) lineMemory_j21) lineMemory_j22) lineMemory_j23) Try.fact24) Try.fact25) lineMemory_j26) lineMemory_j27) lineMemory_j28) lineMemory_j29) lineMemory_j30) lineMemory_j31)
theorem lineMemory_named : Try.prog.funcNamed Rows.lineMemoryRow.func = some 18 := by kernel_rfl
theorem lineMemory_instance : Try.f18.isInstance Try.prog Rows.lineMemoryRow.origin Rows.lineMemoryRow.targs := of_decide_eq_true (by kernel_rfl)
theorem lineMemory_wrapper : Try.f18.isWrapper Try.prog Rows.lineMemoryRow.wrapper Rows.lineMemoryRow.mainSum := by unfold Func.isWrapper; first | (rw [if_pos (by decide +kernel)]; kernel_rfl) | (rw [if_neg (by decide +kernel)]; exact ⟨rfl, rfl⟩)

set_option maxRecDepth 100000 in
theorem lineMemory_over : Rows.lineMemoryRow.holds Try.pinned (OpenSpec.ofChange Rows.lineMemorySpec) :=
  OpenClaim.holds_of_wide 18 Try.f18 rfl rfl rfl rfl rfl rfl rfl ⟨rfl, rfl, rfl, rfl, rfl⟩ rfl rfl rfl rfl rfl lineMemory_named Try.func18 lineMemory_closed lineMemory_instance lineMemory_wrapper
    (fun os started H enc _ => lineMemory_lifted os started H enc)

/-- THE STATEMENT. -/
theorem lineMemory_holds : Rows.LineMemorySaid := lineMemory_over

end Go.Proofs.Ytejbpoclfjkllaa
