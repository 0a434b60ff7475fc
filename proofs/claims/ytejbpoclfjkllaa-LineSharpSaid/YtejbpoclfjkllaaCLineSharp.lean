/- The law LineSharp: for every input the call returns true, and its arguments read as before. No conditions. -/
import Derived.Test.YtejbpoclfjkllaaCZ5
import Derived.Test.YtejbpoclfjkllaaCFr
namespace Go.Proofs.Ytejbpoclfjkllaa
open Go Go.ChangeShapes Go.WideShapes Go.ChangeAt Go.RowKit

set_option maxRecDepth 100000 in
theorem lineSharp_lifted (os : Os) (started : os.Started) (H : Type) (enc : TypeId × Value → H) :
    ReturnsInHanded {} Try.checked os 21 .any (Rows.lineSharpSpec.pre6 enc Try.prog Try.f21 Rows.lineSharpRow.domain false) (Rows.lineSharpSpec.post enc Try.prog Try.f21 false true false false) := by
  refine returnsInHanded_of_change (C := Try.checked) Try.own started (by kernel_rfl) Try.func21
    (ChangeSpec.witness6 (enc := enc) (C := Try.checked) false ⟨#[], #[.agg #[.int .i64 0, .slice none 0 0], .slice none 0 0, .slice none 0 0, .int .i64 0, .int .i64 0, .int .i64 0], []⟩ 8 (by kernel_rfl) (by kernel_rfl) (by kernel_rfl) (by kernel_rfl)) ?_
  intro W base args ds gs before hval0 hW hcnd _
  have hval : ∀ (j : Nat) t v, Try.f21.params[j]? = some t → args[j]? = some v → Value.okWide Try.prog W .any base t v := hval0
  have hW' := hW
  obtain ⟨p, q, hA0, hV, rfl, hfz, hnd⟩ := hW
  have hA : DataW.TrodAll enc Try.prog W 0 (fun _ => true) true Try.f21.params.toList args.toList ds p := hA0
  rw [Try.params21] at hA hval
  obtain ⟨v0, vs0, d0, ds0, p0, q0, hargs, rfl, rfl, h0, r0⟩ := trodAll_cons hA
  obtain ⟨v1, vs1, d1, ds1, p1, q1, rfl, rfl, rfl, h1, r1⟩ := trodAll_cons r0
  obtain ⟨v2, vs2, d2, ds2, p2, q2, rfl, rfl, rfl, h2, r2⟩ := trodAll_cons r1
  obtain ⟨v3, vs3, d3, ds3, p3, q3, rfl, rfl, rfl, h3, r3⟩ := trodAll_cons r2
  obtain ⟨v4, vs4, d4, ds4, p4, q4, rfl, rfl, rfl, h4, r4⟩ := trodAll_cons r3
  obtain ⟨v5, vs5, d5, ds5, p5, q5, rfl, rfl, rfl, h5, r5⟩ := trodAll_cons r4
  obtain ⟨rfl, rfl, rfl⟩ := trodAll_nil r5
  obtain rfl : args = #[v0, v1, v2, v3, v4, v5] := by cases args; simp_all
  obtain ⟨rfl, rfl⟩ := trodVars_none hV
  obtain ⟨N0, a0, cap0, bs0, rfl, hN0, hB0, hS0, hl0, hok0⟩ := open_sys (hval 0 24 v0 rfl rfl) h0
  obtain ⟨a1, cap1, y1, rfl, hY1, hZ1, hm1, hyo1⟩ := open_list (hval 1 27 v1 rfl rfl) h1
  obtain ⟨a2, cap2, y2, rfl, hY2, hZ2, hm2, hyo2⟩ := open_list (hval 2 27 v2 rfl rfl) h2
  obtain ⟨n3, rfl, hn3⟩ := open_num (hval 3 3 v3 rfl rfl) h3
  obtain ⟨n4, rfl, hn4⟩ := open_num (hval 4 3 v4 rfl rfl) h4
  obtain ⟨n5, rfl, hn5⟩ := open_num (hval 5 3 v5 rfl rfl) h5
  refine (lineSharp_any W N0 a0 cap0 bs0 a1 cap1 y1 a2 cap2 y2 n3 n4 n5 hN0 hl0 hm1 hm2 hB0 hY1 hY2).mono fun e W' ⟨he, hg⟩ => ?_
  subst he
  refine ⟨_, rfl, law_post hW' hg (by kernel_rfl) ?_ rfl rfl⟩
  intro t ht
  rw [Try.params21] at ht
  simp only [List.mem_cons, List.not_mem_nil, or_false] at ht
  rcases ht with rfl | rfl | rfl | rfl | rfl | rfl
  · exact argOk24
  · exact argOk27
  · exact argOk27
  · exact argOk3
  · exact argOk3
  · exact argOk3

/-! The row's closed facts, each by itself. -/
theorem lineSharp_j0 : (Rows.lineSharpRow.wf (OpenSpec.ofChange Rows.lineSharpSpec)) = true := by kernel_rfl
theorem lineSharp_j3 : (Try.f21.params.all (Try.prog.readableRec ·)) = true := by kernel_rfl
theorem lineSharp_j4 : (namedTie Try.prog Rows.lineSharpRow.named Rows.lineSharpSpec.vars) = true := by kernel_rfl
theorem lineSharp_j5 : ((Rows.lineSharpRow.stops == [])) = true := by kernel_rfl
theorem lineSharp_j7 : ((Rows.lineSharpRow.knobs == [])) = true := by kernel_rfl
theorem lineSharp_j9 : ((Rows.lineSharpRow.inPlace == Try.prog.inPlace 21)) = true := by kernel_rfl
theorem lineSharp_j10 : ((Rows.lineSharpRow.unfollowed == Try.prog.unfollowed 21)) = true := by kernel_rfl
theorem lineSharp_j11 : ((Rows.lineSharpRow.recurses == Try.prog.recurses 21)) = true := by kernel_rfl
theorem lineSharp_j12 : ((Rows.lineSharpRow.named == Try.prog.varsNamed 21)) = true := by kernel_rfl
theorem lineSharp_j13 : ((Rows.lineSharpRow.maps == (Try.f21.params.toList ++ Rows.lineSharpSpec.plain.varTypes Try.prog).any (Try.prog.mapsRec ·))) = true := by kernel_rfl
theorem lineSharp_j14 : ((Rows.lineSharpRow.ifaces == (Try.f21.params.toList ++ Rows.lineSharpSpec.plain.varTypes Try.prog).any (Try.prog.ifacesRec ·))) = true := by kernel_rfl
theorem lineSharp_j15 : ((Rows.lineSharpRow.mapsOut == Try.prog.mapsAmong Try.f21.resultTypes.toList)) = true := by kernel_rfl
theorem lineSharp_j16 : ((Rows.lineSharpRow.loops == (Try.f21.params.toList ++ Rows.lineSharpSpec.plain.varTypes Try.prog).any (Try.prog.loopsFrom ·))) = true := by kernel_rfl
theorem lineSharp_j17 : ((Rows.lineSharpRow.wideKeys == (Try.f21.params.toList ++ Rows.lineSharpSpec.plain.varTypes Try.prog ++ Try.f21.resultTypes.toList).any (Try.prog.wideKeysFrom ·))) = true := by kernel_rfl
theorem lineSharp_j18 : (Rows.lineSharpSpec.vars.all (Try.prog.varReadable ·)) = true := by kernel_rfl
theorem lineSharp_j19 : (Try.f21.resultTypes.all (fun t => Try.prog.readableRec t && decide (t < Try.prog.types.size))) = true := by kernel_rfl
theorem lineSharp_j20 : ((Rows.lineSharpRow.ifacesOut == Try.f21.resultTypes.toList.any (Try.prog.ifacesRec ·))) = true := by kernel_rfl
theorem lineSharp_j21 : ((Rows.lineSharpRow.loopsOut == Try.f21.resultTypes.toList.any (Try.prog.loopsFrom ·))) = true := by kernel_rfl
theorem lineSharp_j22 : ((Rows.lineSharpRow.plainKeys == Try.prog.plainKeys)) = true := by rw [Try.fact22]; rfl
theorem lineSharp_j23 : (Rows.lineSharpRow.shortTexts.isNone) = true := by kernel_rfl
theorem lineSharp_j26 : ((Rows.lineSharpRow.lifted == Try.prog.liftsFinal)) = true := by rw [Try.fact26]; rfl
theorem lineSharp_j27 : ((Try.prog.make == some Rows.lineSharpRow.make)) = true := by rw [Try.fact27]; rfl
theorem lineSharp_j28 : ((Rows.lineSharpRow.kinds == (if Rows.lineSharpRow.domain.isEmpty then [] else Try.f21.params.toList.map fun t => match Try.prog.underlying t with | some (.int k) => some k | _ => none))) = true := by kernel_rfl
theorem lineSharp_j29 : ((Rows.lineSharpRow.pinned == Rows.lineSharpRow.pinnedBy)) = true := by kernel_rfl
theorem lineSharp_j30 : ((Rows.lineSharpRow.veiled == (Try.f21.params.toList ++ Rows.lineSharpSpec.plain.varTypes Try.prog ++ Try.f21.resultTypes.toList).any (Try.prog.veiledRec ·))) = true := by kernel_rfl
theorem lineSharp_j31 : (Rows.lineSharpRow.veiledFits Try.prog Try.f21.params.toList (Try.f21.params.toList ++ Rows.lineSharpSpec.plain.varTypes Try.prog ++ Try.f21.resultTypes.toList)) = true := by kernel_rfl
set_option maxRecDepth 100000 in
theorem lineSharp_closed : joinedFacts Try.prog 21 Try.f21 Rows.lineSharpSpec Rows.lineSharpRow = true := by
  unfold joinedFacts
  exact (and2 (and2 (and2 (and2 (and2 (and2 (and2 (and2 (and2 (and2 (and2 (and2 (and2 (and2 (and2 (and2 (and2 (and2 (and2 (and2 (and2 (and2 (and2 (and2 (and2 (and2 (and2 (and2 (and2 (and2 (and2 lineSharp_j0 Try.fact1) Try.fact2) lineSharp_j3) lineSharp_j4) lineSharp_j5) Try.fact6) lineSharp_j7) Try.fact8) lineSharp_j9) lineSharp_j10) lineSharp_j11) lineSharp_j12) lineSharp_j13) lineSharp_j14) lineSharp_j15) lineSharp_j16) lineSharp_j17) lineSharp_j18) lineSharp_j19) lineSharp_j20) lineSharp_j21) lineSharp_j22) lineSharp_j23) Try.fact24) Try.fact25) lineSharp_j26) lineSharp_j27) lineSharp_j28) lineSharp_j29) lineSharp_j30) lineSharp_j31)
theorem lineSharp_named : Try.prog.funcNamed Rows.lineSharpRow.func = some 21 := by kernel_rfl
theorem lineSharp_instance : Try.f21.isInstance Try.prog Rows.lineSharpRow.origin Rows.lineSharpRow.targs := of_decide_eq_true (by kernel_rfl)
theorem lineSharp_wrapper : Try.f21.isWrapper Try.prog Rows.lineSharpRow.wrapper Rows.lineSharpRow.mainSum := by unfold Func.isWrapper; first | (rw [if_pos (by decide +kernel)]; kernel_rfl) | (rw [if_neg (by decide +kernel)]; exact ⟨rfl, rfl⟩)

set_option maxRecDepth 100000 in
theorem lineSharp_over : Rows.lineSharpRow.holds Try.pinned (OpenSpec.ofChange Rows.lineSharpSpec) :=
  OpenClaim.holds_of_wide 21 Try.f21 rfl rfl rfl rfl rfl rfl rfl ⟨rfl, rfl, rfl, rfl, rfl⟩ rfl rfl rfl rfl rfl lineSharp_named Try.func21 lineSharp_closed lineSharp_instance lineSharp_wrapper
    (fun os started H enc _ => lineSharp_lifted os started H enc)

/-- THE STATEMENT. -/
theorem lineSharp_holds : Rows.LineSharpSaid := lineSharp_over

end Go.Proofs.Ytejbpoclfjkllaa
