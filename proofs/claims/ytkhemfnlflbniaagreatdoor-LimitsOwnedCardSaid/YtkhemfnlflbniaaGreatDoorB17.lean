/- Merged text 17 of the base: what a card owes of the whole program. No conditions. -/
import Derived.Test.YtkhemfnlflbniaaGreatDoorCards
import Derived.KernelRfl
import Derived.ProofKit
set_option maxRecDepth 100000
namespace Go.Proofs.YtkhemfnlflbniaaGreatDoor
open Go
theorem Bq : Tryz.pinned.checked.prog.headLifts.contains "ownunsafe" = false := by kernel_rfl
def vO (ws:List (List Char)):Option (Bool×List Char) :=
 match ws with
 | h :: s :: _ => if !isSumSigns s then none else if h == "harness".toList then some (true, s) else if h == "ownmain".toList then some (false, s) else none
 | _=>none
theorem x7 (P:Program):P.mainIs=vO (wordsSigns P.initOrder.toList):=rfl
theorem xV {P:Program} {l:List Char} {r:Option (Bool×List Char)} (hl:P.initOrder=String.ofList l) (h:vO (wordsSigns l)=r):P.mainIs=r:=by
 rw[x7,hl,String.toList_ofList,h]
theorem yV : ∃ l : List Char, Tryz.prog.initOrder = String.ofList l ∧ vO (wordsSigns l) = some (true, "a314527e42ba43a1a986057f2e4706a40430ee3f422109f3723c19ffe0241afc".toList) := by
 unfold Tryz.prog Tryz.progTables;dsimp only;refine⟨_,rfl,?_⟩
 kernel_rfl
theorem xB : Tryz.prog.mainIs = some (true, "a314527e42ba43a1a986057f2e4706a40430ee3f422109f3723c19ffe0241afc".toList) := by
 obtain⟨l,hl,h⟩:=yV;exact xV hl h
theorem Bz : Tryz.pinned.checked.prog.mainIs = some (true, "a314527e42ba43a1a986057f2e4706a40430ee3f422109f3723c19ffe0241afc".toList) := xB
theorem Bo:false=Tryz.pinned.checked.prog.looks []:=by kernel_rfl
end Go.Proofs.YtkhemfnlflbniaaGreatDoor
