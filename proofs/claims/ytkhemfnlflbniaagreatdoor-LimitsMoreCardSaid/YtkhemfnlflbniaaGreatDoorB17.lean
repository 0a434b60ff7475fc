/- Merged text 17 of the base: what a card owes of the whole program. No conditions. -/
import Derived.Test.YtkhemfnlflbniaaGreatDoorCards
import Derived.KernelRfl
import Derived.ProofKit
namespace Go.Proofs.YtkhemfnlflbniaaGreatDoor
open Go
set_option maxRecDepth 100000 in
theorem cardPlain : Tryz.pinned.checked.prog.headLifts.contains "ownunsafe" = false := by kernel_rfl
def mainOf (ws : List (List Char)) : Option (Bool × List Char) :=
 match ws with
 | h :: s :: _ => if !isSumSigns s then none else if h == "harness".toList then some (true, s) else if h == "ownmain".toList then some (false, s) else none
 | _ => none
theorem mainIs_eq (P : Program) : P.mainIs = mainOf (wordsSigns P.initOrder.toList) := rfl
theorem mainIs_of {P : Program} {l : List Char} {r : Option (Bool × List Char)} (hl : P.initOrder = String.ofList l) (h : mainOf (wordsSigns l) = r) : P.mainIs = r := by
 rw [mainIs_eq, hl, String.toList_ofList, h]
set_option maxRecDepth 100000 in
theorem cardHead : ∃ l : List Char, Tryz.prog.initOrder = String.ofList l ∧ mainOf (wordsSigns l) = some (true, "a314527e42ba43a1a986057f2e4706a40430ee3f422109f3723c19ffe0241afc".toList) := by
 unfold Tryz.prog Tryz.progTables
 dsimp only
 refine ⟨_, rfl, ?_⟩
 kernel_rfl
theorem cardMain0 : Tryz.prog.mainIs = some (true, "a314527e42ba43a1a986057f2e4706a40430ee3f422109f3723c19ffe0241afc".toList) := by
 obtain ⟨l, hl, h⟩ := cardHead
 exact mainIs_of hl h
theorem cardMain : Tryz.pinned.checked.prog.mainIs = some (true, "a314527e42ba43a1a986057f2e4706a40430ee3f422109f3723c19ffe0241afc".toList) := cardMain0
set_option maxRecDepth 100000 in
theorem cardLooks : false = Tryz.pinned.checked.prog.looks [] := by kernel_rfl
end Go.Proofs.YtkhemfnlflbniaaGreatDoor
