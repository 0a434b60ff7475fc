/- Merged text 1 of the base: Pure, Fp, Sh, Base, Wa, Wb, PureB, Wc, Wd, PureC, PureD, Wf, Wg2, Wg3, Wg4, PlA, PlB, Ar1. No conditions beyond those stated. -/
import Derived.Shelf.Small.Bits
import Derived.Shelf.Small.Wraps
import Derived.Shelf.Strconv.Itoa0
import Derived.Shelf.Sort.Plain
import Derived.Shelf.Slices.Turned
import Derived.Ground.Names2Prog
import Derived.Shelf.Slices.CompactI
import Derived.Shelf.Slices.SearchI
import Derived.Shelf.Slices.Cells
import Derived.Shelf.Slices.In.SortNone
import Derived.Test.YthjmkmjojlfejaaGreatProg
import Derived.WalkKit
import Derived.Handy
import Derived.RangeFuncRecord
import Derived.Shelf.Abstract
import Derived.Deep.QuietTactic
import Derived.BigQuiet
import Derived.Laws.CopyOwn
import Derived.WalkSmall
import Derived.RangeFuncNested
import Derived.RangeFuncBound
import Derived.RangeFuncCalls
import Derived.RangeFuncLeaves
import Derived.Shelf.RegionOpen
import Derived.OwnWalkIn
import Derived.TacticsInMore
import Derived.LoopNIn
import Derived.LoopIn
import Derived.Maps.AppendAt
import Derived.Deep.Onto
import Derived.OrdersHeld
namespace Go.Proofs.YthjmkmjojlfejaaGreat
structure Bd where
 src : Int
 dst : Int
 most : Int
 rcd : Int
def i64ok (n : Int) : Prop := -9223372036854775808 ≤ n ∧ n ≤ 9223372036854775807
def inR (n a b : Int) : Bool := decide (a ≤ n) && decide (n ≤ b)
def badB (N : Int) (b : Bd) : Bool :=
 !inR b.src 0 (N - 1) || !inR b.dst 0 (N - 1) || b.src == b.dst || !inR b.most (-1000000) 1000000 || !inR b.rcd 0 1000000
def checkedP (N : Int) (bs : List Bd) : Int := if N < 1 then 1 else if bs.any (badB N) then 1 else 0
def checkP (N : Int) (bs : List Bd) : Int := if 128 < N ∨ 2000 < bs.length then 2 else checkedP N bs
def idxOf {α : Type} (p : α → Bool) : List α → Int
 | [] => -1
 | x :: l => if p x then 0 else if idxOf p l < 0 then -1 else idxOf p l + 1
theorem idxOf_none {α : Type} {p : α → Bool} : ∀ {l : List α}, l.any p = false → idxOf p l = -1
 | [], _ => rfl
 | x :: l, h => by
   simp only [List.any_cons, Bool.or_eq_false_iff] at h
   simp [idxOf, h.1, idxOf_none h.2]
theorem idxOf_found {α : Type} {p : α → Bool} : ∀ {l : List α} {k : Nat} (hk : k < l.length), (l.take k).any p = false → p l[k] = true → idxOf p l = k
 | [], k, hk, _, _ => by simp at hk
 | x :: l, 0, hk, _, h => by simp at h; simp [idxOf, h]
 | x :: l, k + 1, hk, h0, h => by
   simp only [List.take_succ_cons, List.any_cons, Bool.or_eq_false_iff] at h0
   have := idxOf_found (l := l) (k := k) (by simpa using hk) h0.2 (by simpa using h)
   simp [idxOf, h0.1, this]; omega
theorem idxOf_neg {α : Type} {p : α → Bool} (l : List α) : idxOf p l < 0 ↔ l.any p = false := by
 constructor
 ·induction l with
  | nil => intro; rfl
  | cons x l ih =>
    intro h
    simp only [idxOf] at h
    simp only [List.any_cons, Bool.or_eq_false_iff]
    by_cases hp : p x = true
    ·simp [hp] at h
    ·simp [hp] at h
     by_cases h2 : idxOf p l < 0
     ·exact ⟨by simpa using hp, ih h2⟩
     ·simp [h2] at h; omega
 ·intro h; rw [idxOf_none h]; omega
theorem take_any_succ {α : Type} {p : α → Bool} {l : List α} {k : Nat} (hk : k < l.length) (h0 : (l.take k).any p = false) (h1 : p l[k] = false) : (l.take (k + 1)).any p = false := by
 rw [List.take_succ_eq_append_getElem hk, List.any_append, h0]; simp [h1]
theorem any_of_take {α : Type} {p : α → Bool} {l : List α} {k : Nat} (hk : l.length ≤ k) (h0 : (l.take k).any p = false) : l.any p = false := by
 rwa [List.take_of_length_le hk] at h0
theorem any_of_at {α : Type} {p : α → Bool} {l : List α} {k : Nat} (hk : k < l.length) (h1 : p l[k] = true) : l.any p = true :=
 List.any_eq_true.2 ⟨_, List.getElem_mem hk, h1⟩
structure Sta where
 name : ByteArray
 x : Int
structure Par where
 name : ByteArray
 south : Int
 wst : Int
 est : Int
structure Vrn where
 year : Int
 east : Int
structure Fld where
 sts : List Sta
 lms : List ByteArray
 prs : List Par
 vrs : List Vrn
def lowCh (c : UInt8) : Bool := decide (97 ≤ c.toNat) && decide (c.toNat ≤ 122)
def nameCh (c : UInt8) : Bool := lowCh c || (decide (48 ≤ c.toNat) && decide (c.toNat ≤ 57)) || c.toNat == 45
def isNameB (s : ByteArray) : Bool := decide (1 ≤ s.size) && decide (s.size ≤ 24) && lowCh (s.data.toList.getD 0 0) && s.data.toList.all nameCh
def vrnsB : Int → List Vrn → Bool
 | _, [] => true
 | y, v :: l => inR v.year (y + 1) 3000 && inR v.east (-60) 60 && vrnsB v.year l
def checkVrns (l : List Vrn) : Int := if 40 < l.length then 2 else if vrnsB 0 l then 0 else 1
def twiceTo (l : List ByteArray) (k : Nat) : Bool := (List.range k).any fun i => (l.take i).any fun y => decide (y = l.getD i default)
def overB (p q : Par) : Bool := p.south == q.south && decide (0 < min p.est q.est - max p.wst q.wst)
def parRange (nL nS : Nat) (p : Par) : Bool := inR p.south 0 ((nL : Int) - 2) && inR p.wst 0 ((nS : Int) - 1) && inR p.est 0 ((nS : Int) - 1)
def sta0 : Sta := ⟨ByteArray.empty, 0⟩
def par0 : Par := ⟨ByteArray.empty, 0, 0, 0⟩
def stasTo (l : List Sta) (k : Nat) : Bool := (List.range k).all fun i => i == 0 || decide ((l.getD (i - 1) sta0).x < (l.getD i sta0).x)
def parsTo (l : List Par) (k : Nat) : Bool := (List.range k).all fun i => decide ((l.getD i par0).wst < (l.getD i par0).est) && !(l.take i).any (overB (l.getD i par0))
def Fld.names (F : Fld) : List (List ByteArray) := [F.sts.map Sta.name, F.lms, F.prs.map Par.name]
def Fld.check (F : Fld) : Int :=
 if 12 < F.sts.length ∨ 10 < F.lms.length ∨ 40 < F.prs.length then 2
 else if F.sts.length < 2 ∨ F.lms.length < 1 then 5
 else if checkVrns F.vrs ≠ 0 then checkVrns F.vrs
 else if F.names.any (fun l => l.any fun s => !isNameB s) then 4
 else if F.names.any (fun l => twiceTo l l.length) then 6
 else if F.sts.any (fun s => !inR s.x 0 100000) then 1
 else if F.prs.any (fun p => !parRange F.lms.length F.sts.length p) then 1
 else if stasTo F.sts F.sts.length = false then 30
 else if parsTo F.prs F.prs.length = false then 30
 else 0
end Go.Proofs.YthjmkmjojlfejaaGreat
namespace Go.Proofs
open Go.Shelf
def Tryz.lays215_ren : Go.Shelf.Ren := ⟨fun | 215 => 198 | n => n, fun | 3 => 3 | 4 => 4 | n => n, fun | n => n⟩
open Go.RowKit in
def Tryz.lays122_ren : Go.Shelf.Ren := ⟨fun | 122 => 155 | 215 => 198 | n => n, fun | 3 => 3 | 4 => 4 | n => n, fun | n => n⟩
theorem Tryz.lays122 : Go.Proofs.Lays.n122 Tryz.prog Tryz.lays122_ren := {
 mixed := by kernel_rfl
 f122 := Tryz.func155.trans (congrArg some (by kernel_rfl))
 f215 := Tryz.func198.trans (congrArg some (by kernel_rfl))
 t3 := Tryz.underlying3
 a3 := Tryz.isAgg3
 z3 := Tryz.sizeOf3
 v3 := Tryz.zeroValue3
 t4 := Tryz.underlying4
 a4 := Tryz.isAgg4
 z4 := Tryz.sizeOf4
 v4 := Tryz.zeroValue4 }
open Go.RowKit in
theorem Tryz.cmp_Compare_int (x y : Int) (w : World) :
 Calls Tryz.prog 155 #[.int .i64 x, .int .i64 y] w fun e w' => e = .returned (.int .i64 (Lib.compareInt x y)) ∧ w' = w := Any.cmp_Compare_int Tryz.lays122 x y w
def Tryz.lays189_ren : Go.Shelf.Ren := ⟨fun | 189 => 129 | 125 => 179 | 257 => 178 | 128 => 221 | 129 => 222 | 294 => 212 | 295 => 213 | 296 => 214 | 297 => 215 | 298 => 216 | 299 => 217 | 216 => 218 | 300 => 219 | 301 => 220 | 328 => 233 | 329 => 234 | 330 => 235 | 331 => 236 | 332 => 237 | 215 => 198 | 343 => 241 | n => n, fun | 28 => 25 | 3 => 3 | 46 => 189 | 0 => 0 | 51 => 221 | 53 => 223 | 4 => 4 | 183 => 214 | 182 => 213 | 131 => 104 | 5 => 5 | 9 => 9 | 218 => 236 | 222 => 240 | 228 => 247 | 229 => 125 | n => n, fun | n => n⟩
theorem Tryz.lays189 : Go.Proofs.Lays.n189 Tryz.prog Tryz.lays189_ren := {
 mixed := by kernel_rfl
 f125 := Tryz.func179.trans (congrArg some (by kernel_rfl))
 f128 := Tryz.func221.trans (congrArg some (by kernel_rfl))
 f129 := Tryz.func222.trans (congrArg some (by kernel_rfl))
 f189 := Tryz.func129.trans (congrArg some (by kernel_rfl))
 f215 := Tryz.func198.trans (congrArg some (by kernel_rfl))
 f216 := Tryz.func218.trans (congrArg some (by kernel_rfl))
 f257 := Tryz.func178.trans (congrArg some (by kernel_rfl))
 f294 := Tryz.func212.trans (congrArg some (by kernel_rfl))
 f295 := Tryz.func213.trans (congrArg some (by kernel_rfl))
 f296 := Tryz.func214.trans (congrArg some (by kernel_rfl))
 f297 := Tryz.func215.trans (congrArg some (by kernel_rfl))
 f298 := Tryz.func216.trans (congrArg some (by kernel_rfl))
 f299 := Tryz.func217.trans (congrArg some (by kernel_rfl))
 f300 := Tryz.func219.trans (congrArg some (by kernel_rfl))
 f301 := Tryz.func220.trans (congrArg some (by kernel_rfl))
 f328 := Tryz.func233.trans (congrArg some (by kernel_rfl))
 f329 := Tryz.func234.trans (congrArg some (by kernel_rfl))
 f330 := Tryz.func235.trans (congrArg some (by kernel_rfl))
 f331 := Tryz.func236.trans (congrArg some (by kernel_rfl))
 f332 := Tryz.func237.trans (congrArg some (by kernel_rfl))
 f343 := Tryz.func241.trans (congrArg some (by kernel_rfl))
 t0 := Tryz.underlying0
 a0 := Tryz.isAgg0
 z0 := Tryz.sizeOf0
 v0 := Tryz.zeroValue0
 t3 := Tryz.underlying3
 a3 := Tryz.isAgg3
 z3 := Tryz.sizeOf3
 v3 := Tryz.zeroValue3
 t4 := Tryz.underlying4
 a4 := Tryz.isAgg4
 z4 := Tryz.sizeOf4
 v4 := Tryz.zeroValue4
 t5 := Tryz.underlying5
 a5 := Tryz.isAgg5
 z5 := Tryz.sizeOf5
 v5 := Tryz.zeroValue5
 t9 := Tryz.underlying9
 a9 := Tryz.isAgg9
 z9 := Tryz.sizeOf9
 v9 := Tryz.zeroValue9
 t28 := Tryz.underlying25
 a28 := Tryz.isAgg25
 z28 := Tryz.sizeOf25
 v28 := Tryz.zeroValue25
 t46 := Tryz.underlying189
 a46 := Tryz.isAgg189
 z46 := Tryz.sizeOf189
 v46 := Tryz.zeroValue189
 t51 := Tryz.underlying221
 a51 := Tryz.isAgg221
 z51 := Tryz.sizeOf221
 v51 := Tryz.zeroValue221
 t53 := Tryz.underlying223
 a53 := Tryz.isAgg223
 z53 := Tryz.sizeOf223
 v53 := Tryz.zeroValue223
 t131 := Tryz.underlying104
 a131 := Tryz.isAgg104
 z131 := Tryz.sizeOf104
 v131 := Tryz.zeroValue104
 t182 := Tryz.underlying213
 a182 := Tryz.isAgg213
 z182 := Tryz.sizeOf213
 v182 := Tryz.zeroValue213
 t183 := Tryz.underlying214
 a183 := Tryz.isAgg214
 z183 := Tryz.sizeOf214
 v183 := Tryz.zeroValue214
 t218 := Tryz.underlying236
 a218 := Tryz.isAgg236
 z218 := Tryz.sizeOf236
 v218 := Tryz.zeroValue236
 t222 := Tryz.underlying240
 a222 := Tryz.isAgg240
 z222 := Tryz.sizeOf240
 v222 := Tryz.zeroValue240
 t228 := Tryz.underlying247
 a228 := Tryz.isAgg247
 z228 := Tryz.sizeOf247
 v228 := Tryz.zeroValue247
 t229 := Tryz.underlying125
 a229 := Tryz.isAgg125
 z229 := Tryz.sizeOf125
 v229 := Tryz.zeroValue125 }
open Go.Sort Go.RowKit in
theorem Tryz.slices_Sort_int (blk off cap : Nat) (zs : List Int) (w : World) (hH : Holds (Value.int .i64) w blk off zs.toArray) (hblk : blk < w.heap.size) (hsz : zs.length < 4611686018427387904) :
 Calls Tryz.prog 129 #[.slice (some ⟨blk, off, none⟩) zs.length cap] w fun e w' =>
  e = .returned (.tuple #[]) ∧ ∃ n os, w' = grow (putRow (Value.int .i64) (Sort.ahead w n) blk off (zs.mergeSort fun x y => decide (x ≤ y)).toArray) os := Any.slices_Sort_int Tryz.lays189 blk off cap zs w hH hblk hsz
open Go.Lib in
open Go.Lib in
def Tryz.lays110_ren : Go.Shelf.Ren := ⟨fun | 110 => 231 | 109 => 240 | n => n, fun | 31 => 42 | 9 => 9 | 4 => 4 | 3 => 3 | 0 => 0 | n => n, fun | n => n⟩
theorem Tryz.lays110 : Go.Proofs.Lays.n110 Tryz.prog Tryz.lays110_ren := {
 mixed := by kernel_rfl
 f109 := Tryz.func240.trans (congrArg some (by kernel_rfl))
 f110 := Tryz.func231.trans (congrArg some (by kernel_rfl))
 t0 := Tryz.underlying0
 a0 := Tryz.isAgg0
 z0 := Tryz.sizeOf0
 v0 := Tryz.zeroValue0
 t3 := Tryz.underlying3
 a3 := Tryz.isAgg3
 z3 := Tryz.sizeOf3
 v3 := Tryz.zeroValue3
 t4 := Tryz.underlying4
 a4 := Tryz.isAgg4
 z4 := Tryz.sizeOf4
 v4 := Tryz.zeroValue4
 t9 := Tryz.underlying9
 a9 := Tryz.isAgg9
 z9 := Tryz.sizeOf9
 v9 := Tryz.zeroValue9
 t31 := Tryz.underlying42
 a31 := Tryz.isAgg42
 z31 := Tryz.sizeOf42
 v31 := Tryz.zeroValue42 }
open Go.Lib in
theorem Tryz.slices_Contains_string (b off n c : Nat) (zs : List ByteArray) (x : ByteArray) (w : World) (hz : n ≤ zs.length) (hbig : n ≤ 9223372036854775807) (hc : ∀ j, j < zs.length → w.cell? ⟨b, off + j, none⟩ = some (.string (zs.getD j ByteArray.empty))) :
 Calls Tryz.prog 231 #[.slice (some ⟨b, off, none⟩) n c, .string x] w fun e w' => e = .returned (.bool (Lib.containsS (zs.take n) x)) ∧ w' = w := Any.slices_Contains_string Tryz.lays110 b off n c zs x w hz hbig hc
open Go.Lib in
def Tryz.laysNm220_ren : Go.Shelf.Ren := ⟨fun | 20 => 90 | n => n, fun | 22 => 25 | 3 => 3 | 4 => 4 | 0 => 0 | n => n, fun | n => n⟩
theorem Tryz.laysNm220 : Go.Proofs.Lays2.n20 Tryz.prog Tryz.laysNm220_ren := {
 mixed := by kernel_rfl
 f20 := Tryz.func90.trans (congrArg some (by kernel_rfl))
 t0 := Tryz.underlying0
 a0 := Tryz.isAgg0
 z0 := Tryz.sizeOf0
 v0 := Tryz.zeroValue0
 t3 := Tryz.underlying3
 a3 := Tryz.isAgg3
 z3 := Tryz.sizeOf3
 v3 := Tryz.zeroValue3
 t4 := Tryz.underlying4
 a4 := Tryz.isAgg4
 z4 := Tryz.sizeOf4
 v4 := Tryz.zeroValue4
 t22 := Tryz.underlying25
 a22 := Tryz.isAgg25
 z22 := Tryz.sizeOf25
 v22 := Tryz.zeroValue25
 i3 := by kernel_rfl }
open Go.RowKit Go.Lib Go.Sort in
open Go.RowKit Go.Lib Go.Sort in
theorem Tryz.slices_Compact_int (blk off cap : Nat) (zs : List Int) (w : World) (hH : Holds (Value.int .i64) w blk off zs.toArray) (hsz : zs.length ≤ 9223372036854775807) (hcap : zs.length ≤ cap) :
 Calls Tryz.prog 90 #[.slice (some ⟨blk, off, none⟩) zs.length cap] w fun e w' => e = .returned (.slice (some ⟨blk, off, none⟩) (Lib.compact zs).length cap) ∧ ∃ q, w' = putRow (Value.int .i64) (Sort.ahead w q) blk off (Lib.compact zs ++ List.replicate (zs.length - (Lib.compact zs).length) 0).toArray := Any.slices_Compact_int Tryz.laysNm220 blk off cap zs w hH hsz hcap
open Go.RowKit Go.Lib Go.Sort in
theorem Tryz.slices_Compact_int_empty (a : Option Addr) (cap : Nat) (w : World) :
 Calls Tryz.prog 90 #[.slice a 0 cap] w fun e w' => e = .returned (.slice a 0 cap) ∧ w' = w := Any.slices_Compact_int_empty Tryz.laysNm220 a cap w
open Go.RowKit Go.Lib in
open Go.RowKit Go.Lib in
open Go.RowKit Go.Lib Go.Sort in
open Go.RowKit Go.Sort in
theorem Tryz.slices_Sort_int_none (p : Option Addr) (cap : Nat) (w : World) :
 Calls Tryz.prog 129 #[.slice p 0 cap] w fun e w' => e = .returned (.tuple #[]) ∧ w' = w := Any.slices_Sort_int_none Tryz.lays189 p cap w
end Go.Proofs
namespace Go.Proofs.YthjmkmjojlfejaaGreat
open Go Go.RowKit
theorem hidE {p : Prop} (h : p) : Hid p := h
theorem s_a {α : Type} (l : List α) (i : Nat) (a : α) : l.toArray.setIfInBounds i a = (l.set i a).toArray := List.setIfInBounds_toArray ..
theorem s_b {α : Type} (x : α) (l : List α) (n : Nat) (a : α) : (x :: l).set (n + 1) a = x :: l.set n a := List.set_cons_succ ..
theorem s_c {α : Type} (x : α) (l : List α) (a : α) : (x :: l).set 0 a = a :: l := List.set_cons_zero ..
theorem c_e {w : World} {b i : Nat} {cs : Array Value} {t : TypeId} {fr : Nat × Nat} {v : Value} (h : w.heap[b]? = some (.cells cs t fr)) (hv : cs[i]? = some v) : w.cell? ⟨b, i, none⟩ = some v := by
 rw [cell_of_row _ _ _ _ _ _ h]; exact hv
def IntsAt (w : World) (a : Option Addr) (xs : List Int) : Prop :=
 xs = [] ∨ ∃ b off, a = some ⟨b, off, none⟩ ∧ b < w.heap.size ∧ ∀ i (h : i < xs.length), w.cell? ⟨b, off + i, none⟩ = some (.int .i64 xs[i])
def Bd.cellsAt (x : Bd) (w : World) (b o : Nat) : Prop :=
 w.cell? ⟨b, o, none⟩ = some (.int .i64 x.src) ∧ w.cell? ⟨b, o + 1, none⟩ = some (.int .i64 x.dst) ∧ w.cell? ⟨b, o + 2, none⟩ = some (.int .i64 x.most) ∧ w.cell? ⟨b, o + 3, none⟩ = some (.int .i64 x.rcd)
def BoundsAt (w : World) (a : Option Addr) (bs : List Bd) : Prop :=
 bs = [] ∨ ∃ b off, a = some ⟨b, off, none⟩ ∧ b < w.heap.size ∧ ∀ i (h : i < bs.length), bs[i].cellsAt w b (off + i * 4)
def Bd.cells (x : Bd) : List Value := [.int .i64 x.src, .int .i64 x.dst, .int .i64 x.most, .int .i64 x.rcd]
def flat (bs : List Bd) : List Value := bs.flatMap Bd.cells
def intsV (xs : List Int) : List Value := xs.map (Value.int .i64)
def boolsV (xs : List Bool) : List Value := xs.map Value.bool
theorem flat_get : ∀ (bs : List Bd) (i : Nat) (h : i < bs.length) (j : Nat), j < 4 → (flat bs)[i * 4 + j]? = bs[i].cells[j]?
 | [], i, h, _, _ => by simp at h
 | b :: bs, 0, h, j, hj => by simp [flat, List.flatMap_cons]; rw [List.getElem?_append_left (by simpa [Bd.cells] using hj)]
 | b :: bs, i + 1, h, j, hj => by
   have := flat_get bs i (by simpa using h) j hj
   simp only [flat, List.flatMap_cons, List.getElem_cons_succ] at *
   rw [List.getElem?_append_right (by simp [Bd.cells]; omega), ← this]
   simp [Bd.cells]; congr 1; omega
theorem blk_below {B b : Nat} {w w' : World} {o : Obj} (hb : Below B w w') (h : b < B) (hw : w.heap[b]? = some o) : w'.heap[b]? = some o := (hb.block b h).trans hw
theorem IntsAt.below {B : Nat} {w w' : World} {a : Option Addr} {xs : List Int} (h : IntsAt w a xs) (hb : Below B w w') (hB : w.heap.size ≤ B) : IntsAt w' a xs := by
 rcases h with h | ⟨b, off, e, hl, hc⟩
 ·exact .inl h
 ·exact .inr ⟨b, off, e, Nat.lt_of_lt_of_le hl hb.size, fun i hi => (hb.cell (by exact Nat.lt_of_lt_of_le hl hB)).trans (hc i hi)⟩
theorem BoundsAt.below {B : Nat} {w w' : World} {a : Option Addr} {bs : List Bd} (h : BoundsAt w a bs) (hb : Below B w w') (hB : w.heap.size ≤ B) : BoundsAt w' a bs := by
 rcases h with h | ⟨b, off, e, hl, hc⟩
 ·exact .inl h
 ·refine .inr ⟨b, off, e, Nat.lt_of_lt_of_le hl hb.size, fun i hi => ?_⟩
  have hB' : b < B := Nat.lt_of_lt_of_le hl hB
  obtain ⟨h0, h1, h2, h3⟩ := hc i hi
  exact ⟨(hb.cell hB').trans h0, (hb.cell hB').trans h1, (hb.cell hB').trans h2, (hb.cell hB').trans h3⟩
theorem IntsAt.alloc {w : World} {a : Option Addr} {xs : List Int} (h : IntsAt w a xs) (o : Obj) : IntsAt (w.alloc o) a xs := h.below ((Below.refl w.heap.size w).alloc (Nat.le_refl _) o) (Nat.le_refl _)
theorem BoundsAt.alloc {w : World} {a : Option Addr} {xs : List Bd} (h : BoundsAt w a xs) (o : Obj) : BoundsAt (w.alloc o) a xs := h.below ((Below.refl w.heap.size w).alloc (Nat.le_refl _) o) (Nat.le_refl _)
theorem IntsAt.at {w : World} {a : Option Addr} {xs : List Int} (h : IntsAt w a xs) {k : Nat} (hk : k < xs.length) : ∃ b off, a = some ⟨b, off, none⟩ ∧ b < w.heap.size ∧ w.cell? ⟨b, off + k, none⟩ = some (.int .i64 xs[k]) := by
 rcases h with h | ⟨b, off, e, hl, hc⟩
 ·subst h; simp at hk
 ·exact ⟨b, off, e, hl, hc k hk⟩
theorem BoundsAt.at {w : World} {a : Option Addr} {bs : List Bd} (h : BoundsAt w a bs) {k : Nat} (hk : k < bs.length) : ∃ b off, a = some ⟨b, off, none⟩ ∧ b < w.heap.size ∧ bs[k].cellsAt w b (off + k * 4) := by
 rcases h with h | ⟨b, off, e, hl, hc⟩
 ·subst h; simp at hk
 ·exact ⟨b, off, e, hl, hc k hk⟩
theorem Bd.cellsAt.below {B : Nat} {w w' : World} {x : Bd} {b o : Nat} (h : x.cellsAt w b o) (hb : Below B w w') (hB : b < B) : x.cellsAt w' b o :=
 ⟨(hb.cell hB).trans h.1, (hb.cell hB).trans h.2.1, (hb.cell hB).trans h.2.2.1, (hb.cell hB).trans h.2.2.2⟩
end Go.Proofs.YthjmkmjojlfejaaGreat
namespace Go.Proofs.YthjmkmjojlfejaaGreat
open Go Go.RowKit Go.Shelf
theorem within_any (n a b : Int) (w : World) : Calls Tryz.prog 185 #[.int .i64 n, .int .i64 a, .int .i64 b] w fun e w' => e = .returned (.bool (inR n a b)) ∧ w = w' := by
 unfold inR
 go_enter Tryz.func185, Tryz.ntmps185
 go_wp2
 all_goals go_ret
 all_goals refine ⟨?_, rfl⟩
 all_goals simp [*]
 omega
theorem refwithin_any (n a b : Int) (w : World) : Calls Tryz.prog 180 #[.int .i64 n, .int .i64 a, .int .i64 b] w fun e w' => e = .returned (.bool (inR n a b)) ∧ w = w' := by
 unfold inR
 go_enter Tryz.func180, Tryz.ntmps180
 go_wp2
 all_goals go_ret
 all_goals refine ⟨?_, rfl⟩
 all_goals simp [*]
 omega
def TestsInts (P : Program) (f : FuncId) (caps : Array Value) (w : World) (xs : List Int) (p : Int → Bool) : Prop :=
 ∀ k (_ : k < xs.length) (W : World), Below w.heap.size w W → Calls P f (#[.int .i64 xs[k]] ++ caps) W fun e W' => e = .returned (.bool (p xs[k])) ∧ Below W.heap.size W W'
set_option maxHeartbeats 400000 in
theorem checked_any (w : World) (N : Int) (a : Option Addr) (cap : Nat) (bs : List Bd) (hN : i64ok N) (hl : bs.length ≤ 9223372036854775807) (h : BoundsAt w a bs) :
 Calls Tryz.prog 165 #[.agg #[.int .i64 N, .slice a bs.length cap]] w fun e w' => e = .returned (.int .i64 (checkedP N bs)) ∧ Below w.heap.size w w' := by
 unfold i64ok at hN
 by_cases h1 : N < 1
 ·go_enter Tryz.func165, Tryz.ntmps165
  go_wp2
  go_ret
  exact ⟨by simp [checkedP, h1], by go_grown⟩
 ·go_enter Tryz.func165, Tryz.ntmps165
  go_wp2
  go_loopw [11] (fun i wr => ∃ k : Nat, k ≤ bs.length ∧ i = .int .i64 k ∧ (bs.take k).any (badB N) = false ∧ wr.heap[w.heap.size]? = some (.cells #[.int .i64 N, .slice a bs.length cap] 24 (0,0)) ∧ Below w.heap.size w wr)
   (fun i _ => bs.length - (intOf i).toNat)
  case atStart => exact ⟨0, by omega, rfl, rfl, heap_alloc_new _ _, by go_grown⟩
  case round =>
   obtain ⟨k, hk, rfl, hany, hs, hb⟩ := hrel
   have hc0 : wr.cell? ⟨w.heap.size, 0, none⟩ = some (.int .i64 N) := c_e hs rfl
   have hsz : w.heap.size < wr.heap.size := lt_of_block hs
   by_cases hlt : k < bs.length
   ·obtain ⟨b, off, rfl, hbl, hcs⟩ := h.at hlt
    obtain ⟨c0, c1, c2, c3⟩ := hcs.below hb hbl
    have HA := hidE hany
    have HS := hidE hs
    have HH := hidE h
    clear hany hs hcs h
    obtain ⟨x, hx⟩ : ∃ x, bs[k] = x := ⟨_, rfl⟩
    rw [hx] at c0 c1 c2 c3
    have HX := hidE hx
    clear hx
    have HB : badB N x = (!inR x.src 0 (N - 1) || !inR x.dst 0 (N - 1) || x.src == x.dst || !inR x.most (-1000000) 1000000 || !inR x.rcd 0 1000000) := rfl
    have HB := hidE HB
    go_wp2_with (go_at_call 185; refine (within_any _ _ _ _).mono ?_; rintro e w' ⟨rfl, rfl⟩)
    all_goals first
     | (go_ret
        exact ⟨by rw [checkedP, if_neg (by omega), any_of_at hlt (by rw [HX.out, HB.out]; first | (simp [*]; done) | (rename_i hq; rcases hq with hq | hq <;> simp [hq]))]; rfl, by go_grown⟩)
     | (rename_i hq
        have hq1 := hq.1
        have hq2 := hq.2
        go_roundw
        case rel => exact ⟨k + 1, by omega, by go_num, take_any_succ hlt HA.out (by rw [HX.out, HB.out]; simp [*]), by rw [Below.heap_alloc _ _ _ hsz]; exact HS.out, by go_grown⟩
        case measure => simp [intOf]; omega)
   ·go_wp2
    go_ret
    exact ⟨by rw [checkedP, if_neg (by omega), any_of_take (by omega) hany]; rfl, hb⟩
set_option maxHeartbeats 400000 in
theorem check_any (w : World) (N : Int) (a : Option Addr) (cap : Nat) (bs : List Bd) (hN : i64ok N) (hl : bs.length ≤ 9223372036854775807) (h : BoundsAt w a bs) :
 Calls Tryz.prog 111 #[.agg #[.int .i64 N, .slice a bs.length cap]] w fun e w' => e = .returned (.int .i64 (checkP N bs)) ∧ Below w.heap.size w w' := by
 have hN' := hN
 unfold i64ok at hN'
 have H := hidE h
 clear h
 have B : ∀ {x y : Int} {w' : World}, x = y → Below (w.alloc (.cells #[.int .i64 N, .slice a bs.length cap] 24)).heap.size (w.alloc (.cells #[.int .i64 N, .slice a bs.length cap] 24)) w' → Ending.returned (.int .i64 x) = Ending.returned (.int .i64 y) ∧ Below w.heap.size w w' :=
  fun e hb => ⟨by rw [e], ((Below.refl _ _).alloc (Nat.le_refl _) _).trans (hb.mono (by simp))⟩
 by_cases h1 : 128 < N
 ·have e : checkP N bs = 2 := by simp [checkP, h1]
  have E := hidE e
  clear e
  go_enter Tryz.func111, Tryz.ntmps111
  go_wp2
  go_ret
  exact B E.out.symm (Below.refl _ _)
 by_cases h2 : 2000 < bs.length
 ·have e : checkP N bs = 2 := by simp [checkP, h2]
  have E := hidE e
  clear e
  go_enter Tryz.func111, Tryz.ntmps111
  go_wp2
  go_ret
  exact B E.out.symm (Below.refl _ _)
 have e : checkP N bs = checkedP N bs := by simp [checkP, h1, h2]
 have E := hidE e
 clear e
 go_enter Tryz.func111, Tryz.ntmps111
 go_wp2_with (go_at_call 165; refine (checked_any _ N a cap bs hN hl (H.out.alloc _)).mono ?_; rintro e w' ⟨rfl, hb⟩)
 go_ret
 exact B E.out.symm hb
theorem indexFuncInts_any (w : World) (a : Option Addr) (cap : Nat) (xs : List Int) (f : FuncId) (caps : Array Value) (p : Int → Bool) (hl : xs.length ≤ 9223372036854775807) (h : IntsAt w a xs)
 (hf : TestsInts Tryz.prog f caps w xs p) (eg : Enters Tryz.prog f) :
 Calls Tryz.prog 187 #[.slice a xs.length cap, .func (.func f) #[] caps] w fun e w' => e = .returned (.int .i64 (idxOf p xs)) ∧ Below w.heap.size w w' := by
 have H := hidE h
 have HF := hidE hf
 unfold Enters at eg
 clear h hf
 go_enter Tryz.func187, Tryz.ntmps187
 go_wp2
 go_loopw [8] (fun i wr => ∃ k : Nat, k ≤ xs.length ∧ i = .int .i64 k ∧ Hid ((xs.take k).any p = false) ∧ Below w.heap.size w wr)
  (fun i _ => xs.length - (intOf i).toNat)
 case atStart => exact ⟨0, by omega, rfl, hidE rfl, by go_grown⟩
 case round =>
  obtain ⟨k, hk, rfl, HA, hb⟩ := hrel
  by_cases hlt : k < xs.length
  ·obtain ⟨b, off, rfl, hbl, hc⟩ := H.out.at hlt
   rw [← hb.cell hbl] at hc
   have hcall := HF.out k hlt wr hb
   obtain ⟨x, hx⟩ : ∃ x, xs[k] = x := ⟨_, rfl⟩
   rw [hx] at hc hcall
   have HX := hidE hx
   clear hx
   cases hq : p x with
   | true =>
     rw [hq] at hcall
     go_wp2_with (go_at_fn f; refine hcall.mono ?_; rintro e w' ⟨rfl, hb'⟩)
     go_ret
     exact ⟨by rw [idxOf_found hlt HA.out (by rw [HX.out]; exact hq)]; rfl, hb.trans (hb'.mono hb.size)⟩
   | false =>
     rw [hq] at hcall
     go_wp2_with (go_at_fn f; refine hcall.mono ?_; rintro e w' ⟨rfl, hb'⟩)
     go_roundw
     case rel => exact ⟨k + 1, by omega, by go_num, hidE (take_any_succ hlt HA.out (by rw [HX.out]; exact hq)), hb.trans (hb'.mono hb.size)⟩
     case measure => simp [intOf]; omega
  ·go_wp2_with fail
   go_ret
   exact ⟨by rw [idxOf_none (any_of_take (by omega) HA.out)]; rfl, hb⟩
theorem containsFuncInts_any (w : World) (a : Option Addr) (cap : Nat) (xs : List Int) (f : FuncId) (caps : Array Value) (p : Int → Bool) (hl : xs.length ≤ 9223372036854775807) (h : IntsAt w a xs)
 (hf : TestsInts Tryz.prog f caps w xs p) (eg : Enters Tryz.prog f) :
 Calls Tryz.prog 151 #[.slice a xs.length cap, .func (.func f) #[] caps] w fun e w' => e = .returned (.bool (xs.any p)) ∧ Below w.heap.size w w' := by
 have H := hidE h
 have HF := hidE hf
 have E := hidE eg
 clear h hf eg
 go_enter Tryz.func151, Tryz.ntmps151
 go_wp2_with (go_at_call 187; refine (indexFuncInts_any _ a cap xs f caps p hl H.out HF.out E.out).mono ?_; rintro e w' ⟨rfl, hb⟩)
 all_goals go_ret
 refine ⟨?_, hb⟩
 have := idxOf_neg (p := p) xs
 cases hq : xs.any p with
 | true => rw [hq] at this; simp at this; simp [this]
 | false => rw [hq] at this; simp at this; simp [this]
end Go.Proofs.YthjmkmjojlfejaaGreat
namespace Go.Proofs.YthjmkmjojlfejaaGreat
def getI (h : List Int) (i : Int) : Int := h.getD i.toNat 0
def relaxC (s : List Int × Bool) (b : Bd) : List Int × Bool :=
 if getI s.1 b.src + b.most < getI s.1 b.dst then (s.1.set b.dst.toNat (getI s.1 b.src + b.most), true) else s
def roundP (bs : List Bd) (h : List Int) : List Int × Bool := bs.foldl relaxC (h, false)
def openedGo (bs : List Bd) : Nat → List Int → Option (List Int)
 | 0, _ => none
 | r + 1, h => if (roundP bs h).2 then openedGo bs r (roundP bs h).1 else some (roundP bs h).1
def openedP (N : Int) (bs : List Bd) : Option (List Int) := openedGo bs (N + 1).toNat (List.replicate 128 0)
def Bd.valid (N : Int) (b : Bd) : Prop := 0 ≤ b.src ∧ b.src < N ∧ 0 ≤ b.dst ∧ b.dst < N ∧ -1000000 ≤ b.most ∧ b.most ≤ 1000000
def LowBy (c : Nat) (h : List Int) : Prop := ∀ i : Nat, -((c : Int) * 1000000) ≤ h.getD i 0 ∧ h.getD i 0 ≤ 0
theorem LowBy.mono {c d : Nat} {h : List Int} (H : LowBy c h) (hcd : c ≤ d) : LowBy d h := fun i => by have := H i; omega
theorem lowBy_start (n : Nat) : LowBy 0 (List.replicate n 0) := fun i => by simp [List.getD_eq_getElem?_getD, List.getElem?_replicate]; split <;> simp
theorem getD_set (h : List Int) (j i : Nat) (v : Int) : (h.set j v).getD i 0 = if i = j ∧ j < h.length then v else h.getD i 0 := by
 simp only [List.getD_eq_getElem?_getD, List.getElem?_set]
 by_cases e : j = i
 ·subst e
  by_cases hl : j < h.length
  ·simp [hl]
  ·simp [hl]
 ·simp [e, Ne.symm e]
theorem relaxC_length (s : List Int × Bool) (b : Bd) : (relaxC s b).1.length = s.1.length := by unfold relaxC; split <;> simp
theorem foldl_relaxC_length (bs : List Bd) : ∀ s, (bs.foldl relaxC s).1.length = s.1.length := by
 induction bs with
 | nil => intro s; rfl
 | cons b bs ih => intro s; rw [List.foldl_cons, ih, relaxC_length]
theorem relaxC_low {N : Int} {c : Nat} {s : List Int × Bool} {b : Bd} (hb : b.valid N) (H : LowBy c s.1) : LowBy (c + 1) (relaxC s b).1 := by
 unfold relaxC
 split
 ·rename_i hlt
  intro i
  show _ ≤ (s.1.set b.dst.toNat _).getD i 0 ∧ (s.1.set b.dst.toNat _).getD i 0 ≤ 0
  rw [getD_set]
  have h1 := H b.src.toNat
  have h2 := H b.dst.toNat
  have h3 := H i
  obtain ⟨_, _, _, _, hm, _⟩ := hb
  unfold getI at *
  split <;> omega
 ·exact H.mono (by omega)
theorem foldl_take_succ {α β : Type} (f : β → α → β) (l : List α) (s : β) {k : Nat} (hk : k < l.length) : (l.take (k + 1)).foldl f s = f ((l.take k).foldl f s) l[k] := by
 rw [List.take_succ_eq_append_getElem hk, List.foldl_append]; rfl
end Go.Proofs.YthjmkmjojlfejaaGreat
namespace Go.Proofs.YthjmkmjojlfejaaGreat
open Go Go.RowKit Go.Shelf
def rep128 (n : Int) : List Int := List.replicate 128 n
theorem rep128_length (n : Int) : (rep128 n).length = 128 := List.length_replicate
def rowA (l : List Int) : Array Value := (intsV l).toArray
def netA (N : Int) (sl : Value) (h : List Int) : Array Value := ([.int .i64 N, sl] ++ intsV h).toArray
theorem rowA_get {l : List Int} {i : Nat} (h : i < l.length) : (rowA l)[i]? = some (.int .i64 (l.getD i 0)) := by simp [rowA, intsV, h]
theorem rowA_set (l : List Int) (i : Nat) (v : Int) : (rowA l).setIfInBounds i (.int .i64 v) = rowA (l.set i v) := by
 simp [rowA, intsV, List.map_set]
theorem netA_get {N : Int} {sl : Value} {h : List Int} {i : Nat} (hi : i < h.length) : (netA N sl h)[2 + i]? = some (.int .i64 (h.getD i 0)) := by
 rw [show 2 + i = i + 2 by omega]; simp [netA, intsV, hi]
theorem netA_set (N : Int) (sl : Value) (h : List Int) (i : Nat) (v : Int) : (netA N sl h).setIfInBounds (2 + i) (.int .i64 v) = netA N sl (h.set i v) := by
 rw [show 2 + i = i + 2 by omega]; simp [netA, intsV, List.map_set]
def OpenedPost (N : Int) (sl : Value) (r : Option (List Int)) (base : Nat) (e : Ending) (w' : World) : Prop :=
 match r with
 | some h => ∃ b, e = .returned (.tuple #[.pointer (some ⟨b, 0, none⟩), .bool true]) ∧ base ≤ b ∧ w'.heap[b]? = some (.cells (netA N sl h) 244 (0,0))
 | none => e = .returned (.tuple #[.pointer none, .bool false])
theorem net0 (N : Int) (sl : Value) : (Tryz.zeroCells244.setIfInBounds 0 (Value.int IntKind.i64 N)).setIfInBounds 1 sl = netA N sl (rep128 0) := by kernel_rfl
set_option maxRecDepth 100000 in
set_option maxHeartbeats 1000000 in
theorem opened_any (w : World) (N : Int) (a : Option Addr) (cap : Nat) (bs : List Bd) (hN0 : 1 ≤ N) (hN1 : N ≤ 128) (hl : bs.length ≤ 4000) (h : BoundsAt w a bs) (hv : ∀ b ∈ bs, b.valid N) :
 Calls Tryz.prog 223 #[.agg #[.int .i64 N, .slice a bs.length cap]] w fun e w' => OpenedPost N (.slice a bs.length cap) (openedP N bs) w.heap.size e w' ∧ Below w.heap.size w w' := by
 have H := hidE h
 have HV := hidE hv
 clear h hv
 obtain ⟨R, hR⟩ : ∃ R : Nat, N = R := Int.eq_ofNat_of_zero_le (by omega)
 subst hR
 obtain ⟨G, hG⟩ : ∃ G, openedP R bs = G := ⟨_, rfl⟩
 have HG : Hid (openedGo bs (R + 1) (rep128 0) = G) := hG
 rw [hG]
 clear hG
 go_enter Tryz.func223, Tryz.ntmps223
 go_wp2_with fail
 go_loopw [15] (fun i wr => ∃ (r : Nat) (h : List Int), r ≤ R + 1 ∧ i = .int .i64 r ∧ Hid (openedGo bs (R + 1 - r) h = G) ∧ h.length = 128 ∧ Hid (LowBy (r * bs.length) h) ∧
  wr.heap[w.heap.size]? = some (.cells #[.int .i64 R, .slice a bs.length cap] 24 (0,0)) ∧ wr.heap[w.heap.size + 1]? = some (.cells (netA R (.slice a bs.length cap) h) 244 (0,0)) ∧ Below w.heap.size w wr)
  (fun i _ => R + 1 - (intOf i).toNat)
 case atStart => exact ⟨0, rep128 0, by omega, rfl, HG, rep128_length _, hidE (by rw [Nat.zero_mul]; exact lowBy_start 128), heap_alloc2_old _ _ _, by rw [heap_alloc2_new, net0], by go_grown⟩
 case round =>
  obtain ⟨r, h, hr, rfl, hgo, hlen, hlow, h1, h2, hb⟩ := hrel
  have H1 := hidE h1
  have H2 := hidE h2
  have HL := hidE hlen
  have c1 : wr.cell? ⟨w.heap.size, 1, none⟩ = some (.slice a bs.length cap) := c_e h1 rfl
  clear h1 h2 hlen
  by_cases hlt : r < R + 1
  ·have hrL : r * bs.length ≤ 128 * 4000 := Nat.mul_le_mul (by omega) hl
   have hdec : decide ((r : Int) < (R : Int) + 1) = true := by simp; omega
   go_wp2_with fail
   go_loopw [5, 20] (fun c i wr => ∃ (k : Nat) (h' : List Int) (ch : Bool), k ≤ bs.length ∧ i = .int .i64 k ∧ c = .bool ch ∧ Hid ((bs.take k).foldl relaxC (h, false) = (h', ch)) ∧ Hid (h'.length = 128) ∧ Hid (LowBy (r * bs.length + k) h') ∧
    Hid (wr.heap[w.heap.size]? = some (.cells #[.int .i64 R, .slice a bs.length cap] 24 (0,0))) ∧ Hid (wr.heap[w.heap.size + 1]? = some (.cells (netA R (.slice a bs.length cap) h') 244 (0,0))) ∧ Below w.heap.size w wr)
    (fun _ i _ => bs.length - (intOf i).toNat)
   case atStart => exact ⟨0, h, false, by omega, rfl, rfl, hidE rfl, HL, hlow, H1, H2, hb⟩
   case round =>
    obtain ⟨k, h', ch, hk, rfl, rfl, HF, HL', HW, H1', H2', hb'⟩ := hrel
    by_cases hlt' : k < bs.length
    ·obtain ⟨b, off, rfl, hbl, hcs⟩ := H.out.at hlt'
     obtain ⟨c0, c1, c2, c3⟩ := hcs.below hb' hbl
     have hval := HV.out bs[k] (List.getElem_mem hlt')
     obtain ⟨x, hx⟩ : ∃ x, bs[k] = x := ⟨_, rfl⟩
     rw [hx] at c0 c1 c2 c3 hval
     have HX := hidE hx
     clear hx hcs
     obtain ⟨xs, xd, xm, xr⟩ := x
     obtain ⟨v1, v2, v3, v4, v5, v6⟩ := hval
     simp only at c0 c1 c2 c3 v1 v2 v3 v4 v5 v6
     obtain ⟨si, rfl⟩ := Int.eq_ofNat_of_zero_le v1
     obtain ⟨di, rfl⟩ := Int.eq_ofNat_of_zero_le v3
     have hsz : w.heap.size + 1 < wr.heap.size := lt_of_block H2'.out
     have hs128 : si < h'.length := by rw [HL'.out]; omega
     have hd128 : di < h'.length := by rw [HL'.out]; omega
     have cs : wr.cell? ⟨w.heap.size + 1, 2 + si, none⟩ = some (.int .i64 (h'.getD si 0)) := by rw [cell_of_row _ _ _ _ _ _ H2'.out, netA_get hs128]
     have cd : wr.cell? ⟨w.heap.size + 1, 2 + di, none⟩ = some (.int .i64 (h'.getD di 0)) := by rw [cell_of_row _ _ _ _ _ _ H2'.out, netA_get hd128]
     have fd : wr.frozen? ⟨w.heap.size + 1, 2 + di, none⟩ = false := frozen_of_row _ _ _ _ _ H2'.out
     have bs1 := HW.out si
     have bd1 := HW.out di
     obtain ⟨vs, hvs⟩ : ∃ v, h'.getD si 0 = v := ⟨_, rfl⟩
     obtain ⟨vd, hvd⟩ : ∃ v, h'.getD di 0 = v := ⟨_, rfl⟩
     rw [hvs] at cs bs1
     rw [hvd] at cd bd1
     have HVS := hidE hvs
     have HVD := hidE hvd
     have s1 : (si : Int) < 128 := by omega
     have d1 : (di : Int) < 128 := by omega
     clear hvs hvd hs128 hd128
     by_cases hlow : vs + xm < vd
     ·go_wp2_with fail
      go_quiet (fail)
      go_wp2_with fail
      go_quiet (fail)
      go_wp2_with fail
      go_region
      all_goals go_wp2_with fail
      go_roundw
      case rel =>
       refine ⟨k + 1, h'.set di (vs + xm), true, by omega, by go_num, rfl, hidE ?_, hidE (by rw [List.length_set]; exact HL'.out), hidE ?_, hidE ?_, hidE ?_, ?_⟩
       ·rw [foldl_take_succ _ _ _ hlt', HF.out, HX.out]
        unfold relaxC
        rw [if_pos]
        ·simp only [getI, Int.toNat_natCast, HVS.out]
        ·simp only [getI, Int.toNat_natCast, HVS.out, HVD.out]; omega
       ·have hl1 := relaxC_low (c := r * bs.length + k) (s := (h', ch)) (HV.out _ (List.getElem_mem hlt')) HW.out
        rw [HX.out] at hl1
        unfold relaxC at hl1
        rw [if_pos (by simp only [getI, Int.toNat_natCast, HVS.out, HVD.out]; omega)] at hl1
        simp only [getI, Int.toNat_natCast, HVS.out] at hl1
        exact hl1
       ·rw [heap_setCell_other _ _ _ _ (by simp)]
        exact (Below.heap_alloc _ _ _ (by omega)).trans H1'.out
       ·refine (heap_setCell_same _ _ _ _ _ _ ((Below.heap_alloc _ _ _ hsz).trans H2'.out)).trans ?_
        rw [netA_set]
       ·go_grown
        exact below_drewN (hb'.alloc (by omega) _) _
      case measure => simp [intOf]; omega
     ·go_wp2_with fail
      go_quiet (fail)
      go_wp2_with fail
      go_quiet (fail)
      go_wp2_with fail
      go_roundw
      case rel =>
       refine ⟨k + 1, h', ch, by omega, by go_num, rfl, hidE ?_, HL', hidE (HW.out.mono (by omega)), hidE ?_, hidE ?_, ?_⟩
       ·rw [foldl_take_succ _ _ _ hlt', HF.out, HX.out]
        unfold relaxC
        rw [if_neg]
        simp only [getI, Int.toNat_natCast, HVS.out, HVD.out]; omega
       ·exact (Below.heap_alloc _ _ _ (by omega)).trans H1'.out
       ·exact (Below.heap_alloc _ _ _ hsz).trans H2'.out
       ·exact below_drewN (hb'.alloc (by omega) _) _
      case measure => simp [intOf]; omega
    ·have hek : (bs.take k).foldl relaxC (h, false) = roundP bs h := by rw [List.take_of_length_le (by omega)]; rfl
     have hF := HF.out
     rw [hek] at hF
     have HF2 := hidE hF
     clear hF hek
     cases ch with
     | true =>
       go_wp2_with fail
       go_roundw
       case rel =>
        refine ⟨r + 1, h', by omega, by go_num, hidE ?_, HL'.out, hidE (HW.out.mono (by rw [Nat.succ_mul]; omega)), H1'.out, H2'.out, hb'⟩
        rw [← hgo.out, show R + 1 - r = (R + 1 - (r + 1)) + 1 by omega, openedGo, HF2.out]; rfl
       case measure => simp [intOf]; omega
     | false =>
       have hg : G = some h' := by rw [← hgo.out, show R + 1 - r = (R + 1 - (r + 1)) + 1 by omega, openedGo, HF2.out]; rfl
       have HG2 := hidE hg
       clear hg
       go_wp2_with fail
       go_ret2
       exact ⟨by rw [HG2.out]; exact ⟨_, rfl, by omega, H2'.out⟩, hb'⟩
  ·go_wp2_with fail
   go_ret2
   have e : R + 1 - r = 0 := by omega
   have hg := hgo.out
   rw [e] at hg
   exact ⟨by rw [← hg]; rfl, hb⟩
end Go.Proofs.YthjmkmjojlfejaaGreat
namespace Go.Proofs.YthjmkmjojlfejaaGreat
theorem inR_true {n a b : Int} : inR n a b = true ↔ a ≤ n ∧ n ≤ b := by simp [inR]
theorem badB_false {N : Int} {b : Bd} (h : badB N b = false) : b.valid N ∧ b.src ≠ b.dst ∧ 0 ≤ b.rcd ∧ b.rcd ≤ 1000000 := by
 simp only [badB, Bool.or_eq_false_iff, Bool.not_eq_false', inR_true, beq_eq_false_iff_ne] at h
 obtain ⟨⟨⟨⟨h1, h2⟩, h3⟩, h4⟩, h5⟩ := h
 exact ⟨⟨by omega, by omega, by omega, by omega, by omega, by omega⟩, h3, by omega, by omega⟩
theorem checkedP_zero {N : Int} {bs : List Bd} (h : checkedP N bs = 0) : 1 ≤ N ∧ ∀ b ∈ bs, b.valid N ∧ b.src ≠ b.dst ∧ 0 ≤ b.rcd ∧ b.rcd ≤ 1000000 := by
 unfold checkedP at h
 split at h
 ·simp at h
 ·split at h
  ·simp at h
  ·rename_i h1 h2
   refine ⟨by omega, fun b hb => badB_false ?_⟩
   simp only [List.any_eq_true, not_exists, not_and, Bool.not_eq_true] at h2
   exact h2 b hb
theorem checkP_zero {N : Int} {bs : List Bd} (h : checkP N bs = 0) : 1 ≤ N ∧ N ≤ 128 ∧ bs.length ≤ 2000 ∧ ∀ b ∈ bs, b.valid N ∧ b.src ≠ b.dst ∧ 0 ≤ b.rcd ∧ b.rcd ≤ 1000000 := by
 unfold checkP at h
 split at h
 ·simp at h
 ·have := checkedP_zero h
  exact ⟨this.1, by omega, by omega, this.2⟩
def Pot (h : List Int) (bs : List Bd) : Prop := ∀ b ∈ bs, 0 ≤ b.most + getI h b.src - getI h b.dst
end Go.Proofs.YthjmkmjojlfejaaGreat
namespace Go.Proofs.YthjmkmjojlfejaaGreat
open Go Go.RowKit Go.Shelf
attribute [local go_sem] Oper.semAt_some
structure KeepsB (Fix : Nat → Prop) (W W' : World) : Prop where
 size : W.heap.size ≤ W'.heap.size
 same : ∀ b, Fix b → W'.heap[b]? = W.heap[b]?
theorem KeepsB.refl (Fix : Nat → Prop) (W : World) : KeepsB Fix W W := ⟨Nat.le_refl _, fun _ _ => rfl⟩
theorem KeepsB.trans {Fix : Nat → Prop} {A B C : World} (h : KeepsB Fix A B) (k : KeepsB Fix B C) : KeepsB Fix A C := ⟨Nat.le_trans h.size k.size, fun b hb => (k.same b hb).trans (h.same b hb)⟩
theorem KeepsB.below {Fix : Nat → Prop} {W W' : World} (h : Below W.heap.size W W') (hf : ∀ b, Fix b → b < W.heap.size) : KeepsB Fix W W' := ⟨h.size, fun b hb => h.block b (hf b hb)⟩
theorem KeepsB.cell {Fix : Nat → Prop} {W W' : World} (h : KeepsB Fix W W') {p : Addr} (hp : Fix p.block) : W'.cell? p = W.cell? p := World.cell?_of_block (w := W) (h.same p.block hp)
attribute [local go_sem] Oper.semAt_some
theorem heap_alloc_get (w : World) (o : Obj) (i : Nat) : (w.alloc o).heap[i]? = if i = w.heap.size then some o else w.heap[i]? := by
 show (w.heap.push o)[i]? = _
 rw [Array.getElem?_push]
theorem heap_alloc_at (w : World) (o : Obj) (i : Nat) (h : i = w.heap.size) : (w.alloc o).heap[i]? = some o := by rw [h]; exact heap_alloc_new w o
theorem wpOpIn_of_wpOp {P : Program} {ops : Array Oper} {Q : Exit → Act → World → Prop} {i : Nat} {K : Act → World → Prop} {a : Act} {w : World} (l n : Nat) (hnd : ∀ (j : Nat) (o : Oper), ops[j]? = some o → ∀ c, o.op ≠ .defer c) (hout : ¬ LetsOut Q)
 (h : wpOp P ops Q i K a w) : wpOpIn (Fence.wide.inRound l) n P ops Q i K a w := by
 unfold wpOp at h
 unfold wpOpIn
 cases ho : ops[i]? with
 | none => simpa [ho] using h
 | some o =>
   simp only [ho] at h
   show if _ then _ else _
   split
   ·rename_i hw
    rw [if_pos hw] at h
    rcases h with h | h
    ·refine ⟨fun _ _ => trivial, ?_⟩
     unfold Oper.wp at h
     rw [show (Fence.wide.inRound l).round = some l from rfl, Oper.semAt_some l _ _ (hnd i o ho)]
     generalize (execOp a.eval o).run P w = r at h ⊢
     cases r with
     | ok x w' =>
       cases x <;> simp only [Oper.upon] at h <;> try exact h
       ·exact ⟨fun hd => by simp [Fence.wide] at hd, (callsIn_wide.2 h).inRound l⟩
       ·exact ⟨fun hd => by simp [Fence.wide] at hd, fun c cs _ => let ⟨v, w'', r, s⟩ := h c cs; ⟨v, w'', r, stepsIn_wide.2 s⟩⟩
     | halt x w' => cases x <;> simp only [Oper.upon] at h <;> exact h
    ·exact absurd h.2 hout
   ·rename_i hw
    rw [if_neg hw] at h
    exact ⟨fun _ _ => trivial, h⟩
theorem wpAnyIn_of_wpAny {P : Program} {ops : Array Oper} {Q : Exit → Act → World → Prop} {md : Region.Mode} (l n : Nat) (hnd : ∀ (j : Nat) (o : Oper), ops[j]? = some o → ∀ c, o.op ≠ .defer c) (hout : ¬ LetsOut Q) :
 ∀ (fuel : Nat) (listed : Array Bool) (a : Act) (w : World), wpAny P md ops Q fuel listed a w → wpAnyIn (Fence.wide.inRound l) n P md ops Q fuel listed a w
 | 0, _, _, _, h => h
 | fuel + 1, _listed, _a, _w, h => ⟨h.1, fun i hi => wpOpIn_of_wpOp l n hnd hout (wpOp_mono (fun a' w' h' => wpAnyIn_of_wpAny l n hnd hout fuel _ a' w' h') (h.2 i hi))⟩
def noDefer (ops : Array Oper) : Bool := ops.all fun o => match o.op with | .defer _ => false | _ => true
theorem noDefer_spec {ops : Array Oper} (h : noDefer ops = true) (j : Nat) (o : Oper) (ho : ops[j]? = some o) (c : Call) : o.op ≠ .defer c := by
 intro e
 have hj := (Array.all_eq_true_iff_forall_mem.1 h) o (Array.mem_of_getElem? ho)
 simp [e] at hj
theorem run_op_append {P : Program} {o : Oper} {a : Act} {w w' : World} {s x : Operand} {t : TypeId} {vs vx v : Value} (hop : o.op = Op.call { callee := Callee.builtin Builtin.append, args := #[s, x], argTypes := #[t, t] })
 (hs : a.eval s = vs) (hx : a.eval x = vx) (hrun : (Builtin.append_ #[t, t] o.type #[vs, vx]).run P w = .ok v w') : (execOp a.eval o).run P w = .ok (.value v) w' := by
 simp [execOp, hop, resolve, invoke, builtin, hs, hx, hrun, Result.andThen]
def boolA (l : List Bool) : Array Value := (boolsV l).toArray
def repF128 : List Bool := List.replicate 128 false
theorem zc120 : Tryz.zeroCells156 = boolA repF128 := by kernel_rfl
theorem below_putObj {B : Nat} {a w : World} (h : Below B a w) {l : Nat} (hl : B ≤ l) (o : Obj) : Below B a (w.putObj l o) :=
 h.trans ⟨rfl, rfl, rfl, by simp [World.putObj], fun k hk => World.putObj_heap_other (by omega)⟩
end Go.Proofs.YthjmkmjojlfejaaGreat
namespace Go.Proofs.YthjmkmjojlfejaaGreat
def Walk (a b : Int) : List Bd → Prop
 | [] => a = b
 | x :: l => x.src = a ∧ Walk x.dst b l
def wsum : List Bd → Int
 | [] => 0
 | x :: l => x.most + wsum l
def Over (bs l : List Bd) : Prop := ∀ x ∈ l, x ∈ bs
theorem wsum_append (p q : List Bd) : wsum (p ++ q) = wsum p + wsum q := by
 induction p with
 | nil => simp [wsum]
 | cons x p ih => simp only [List.cons_append, wsum, ih]; omega
theorem walk_append {a c : Int} : ∀ {p q : List Bd}, Walk a c (p ++ q) ↔ ∃ b, Walk a b p ∧ Walk b c q
 | [], q => by simp [Walk]
 | x :: p, q => by
   simp only [List.cons_append, Walk, walk_append (p := p)]
   constructor
   ·rintro ⟨h, b, h1, h2⟩; exact ⟨b, ⟨h, h1⟩, h2⟩
   ·rintro ⟨b, ⟨h, h1⟩, h2⟩; exact ⟨h, b, h1, h2⟩
theorem Walk.trans {a b c : Int} {p q : List Bd} (h1 : Walk a b p) (h2 : Walk b c q) : Walk a c (p ++ q) := walk_append.2 ⟨b, h1, h2⟩
theorem Over.append {bs p q : List Bd} (h1 : Over bs p) (h2 : Over bs q) : Over bs (p ++ q) := fun x hx => (List.mem_append.1 hx).elim (h1 x) (h2 x)
theorem Over.left {bs p q : List Bd} (h : Over bs (p ++ q)) : Over bs p := fun x hx => h x (List.mem_append_left _ hx)
theorem Over.right {bs p q : List Bd} (h : Over bs (p ++ q)) : Over bs q := fun x hx => h x (List.mem_append_right _ hx)
theorem Over.tail {bs q : List Bd} {x : Bd} (h : Over bs (x :: q)) : Over bs q := fun y hy => h y (List.mem_cons_of_mem _ hy)
theorem Over.head {bs q : List Bd} {x : Bd} (h : Over bs (x :: q)) : x ∈ bs := h x (List.mem_cons_self ..)
theorem Over.one {bs : List Bd} {x : Bd} (h : x ∈ bs) : Over bs [x] := fun y hy => by rw [List.mem_singleton.1 hy]; exact h
theorem Over.nil {bs : List Bd} : Over bs [] := fun y hy => by cases hy
def AllValid (N : Int) (bs : List Bd) : Prop := ∀ b ∈ bs, b.valid N
theorem walk_pot {h : List Int} {bs : List Bd} (hp : Pot h bs) : ∀ {a b : Int} {l : List Bd}, Walk a b l → Over bs l → getI h b - getI h a ≤ wsum l
 | a, b, [], hw, _ => by simp only [Walk] at hw; subst hw; simp [wsum]
 | a, b, x :: l, hw, ho => by
   have h1 := walk_pot hp hw.2 ho.tail
   have h2 := hp x ho.head
   rw [hw.1] at h2
   simp only [wsum]
   omega
def NoNeg (bs : List Bd) : Prop := ∀ a l, Walk a a l → Over bs l → 0 ≤ wsum l
theorem noNeg_of_pot {h : List Int} {bs : List Bd} (hp : Pot h bs) : NoNeg bs := fun a l hw ho => by have := walk_pot hp hw ho; omega
theorem pigeon : ∀ (N : Nat) (f : Nat → Nat), (∀ i, i ≤ N → f i < N) → ∃ i j, i < j ∧ j ≤ N ∧ f i = f j
 | 0, f, h => by have := h 0 (Nat.le_refl _); omega
 | N + 1, f, h => by
   by_cases hx : ∃ i, i ≤ N ∧ f i = f (N + 1)
   ·obtain ⟨i, hi, e⟩ := hx
    exact ⟨i, N + 1, by omega, Nat.le_refl _, e⟩
   ·have hne : ∀ i, i ≤ N → f i ≠ f (N + 1) := fun i hi e => hx ⟨i, hi, e⟩
    have hN := h (N + 1) (Nat.le_refl _)
    obtain ⟨i, j, h1, h2, h3⟩ := pigeon N (fun i => if f i < f (N + 1) then f i else f i - 1) (fun i hi => by
     have a := hne i hi
     have b := h i (by omega)
     show (if f i < f (N + 1) then f i else f i - 1) < N
     split <;> omega)
    refine ⟨i, j, h1, by omega, ?_⟩
    have a := hne i (by omega)
    have b := hne j h2
    have h4 : (if f i < f (N + 1) then f i else f i - 1) = (if f j < f (N + 1) then f j else f j - 1) := h3
    split at h4 <;> split at h4 <;> omega
def vert (a : Int) : List Bd → Nat → Int
 | _, 0 => a
 | [], _ + 1 => a
 | x :: l, k + 1 => vert x.dst l k
theorem walk_split : ∀ {a b : Int} {l : List Bd} (k : Nat), k ≤ l.length → Walk a b l → Walk a (vert a l k) (l.take k) ∧ Walk (vert a l k) b (l.drop k)
 | a, b, l, 0, _, h => by simp [vert, Walk, h]
 | a, b, [], k + 1, hk, h => by simp at hk
 | a, b, x :: l, k + 1, hk, h => by
   have := walk_split k (by simpa using hk) h.2
   simp only [vert, List.take_succ_cons, List.drop_succ_cons, Walk]
   exact ⟨⟨h.1, this.1⟩, this.2⟩
theorem vert_range {N : Int} {bs : List Bd} (hv : AllValid N bs) : ∀ {a : Int} {l : List Bd} (k : Nat), 0 ≤ a → a < N → Over bs l → 0 ≤ vert a l k ∧ vert a l k < N
 | a, l, 0, h0, h1, _ => by cases l <;> exact ⟨h0, h1⟩
 | a, [], k + 1, h0, h1, _ => ⟨h0, h1⟩
 | a, x :: l, k + 1, h0, h1, ho => by
   have hx := hv x ho.head
   exact vert_range hv k hx.2.2.1 hx.2.2.2.1 ho.tail
theorem vert_take : ∀ (l : List Bd) (a : Int) (i j : Nat), i ≤ j → vert a (l.take j) i = vert a l i
 | l, a, 0, j, _ => by cases l <;> cases j <;> simp [vert]
 | [], a, i + 1, j, _ => by simp
 | x :: l, a, i + 1, 0, h => by omega
 | x :: l, a, i + 1, j + 1, h => by
   simp only [List.take_succ_cons, vert]
   exact vert_take l x.dst i j (by omega)
theorem walk_cycle {N : Nat} {bs : List Bd} (hv : AllValid N bs) {a b : Int} {l : List Bd} (ha0 : 0 ≤ a) (ha1 : a < N) (hw : Walk a b l) (ho : Over bs l) (hl : N ≤ l.length) :
 ∃ p c q x, l = p ++ c ++ q ∧ c ≠ [] ∧ Walk a x p ∧ Walk x x c ∧ Walk x b q := by
 obtain ⟨i, j, hij, hj, e⟩ := pigeon N (fun k => (vert a l k).toNat) (fun k hk => by have := vert_range hv k ha0 ha1 ho; show (vert a l k).toNat < N; omega)
 have ri := vert_range hv i ha0 ha1 ho
 have rj := vert_range hv j ha0 ha1 ho
 have e2 : vert a l i = vert a l j := by
  have e' : (vert a l i).toNat = (vert a l j).toNat := e
  omega
 have sj := walk_split j (by omega) hw
 have si := walk_split (l := l.take j) (k := i) (by simp; omega) sj.1
 rw [vert_take l a i j (by omega)] at si
 refine ⟨(l.take j).take i, (l.take j).drop i, l.drop j, vert a l i, by rw [List.take_append_drop, List.take_append_drop], ?_, si.1, ?_, ?_⟩
 ·intro e3
  have := congrArg List.length e3
  simp at this; omega
 ·have := si.2; rw [← e2] at this; exact this
 ·rw [e2]; exact sj.2
theorem walk_short {N : Nat} {bs : List Bd} (hv : AllValid N bs) (hn : NoNeg bs) : ∀ (n : Nat) {a b : Int} {l : List Bd}, l.length ≤ n → 0 ≤ a → a < N → Walk a b l → Over bs l →
 ∃ l', Walk a b l' ∧ Over bs l' ∧ l'.length < N ∧ wsum l' ≤ wsum l
 | 0, a, b, l, hl, h0, h1, hw, ho => ⟨l, hw, ho, by omega, Int.le_refl _⟩
 | n + 1, a, b, l, hl, h0, h1, hw, ho => by
   by_cases hlt : l.length < N
   ·exact ⟨l, hw, ho, hlt, Int.le_refl _⟩
   ·obtain ⟨p, c, q, x, e, hc, h2, h3, h4⟩ := walk_cycle hv h0 h1 hw ho (by omega)
    subst e
    have hcl : 0 < c.length := List.length_pos_iff.2 hc
    obtain ⟨l', g1, g2, g3, g4⟩ := walk_short hv hn n (l := p ++ q) (by simp at hl ⊢; omega) h0 h1 (h2.trans h4) (ho.left.left.append ho.right)
    have := hn x c h3 ho.left.right
    refine ⟨l', g1, g2, g3, ?_⟩
    rw [wsum_append] at g4
    rw [wsum_append, wsum_append]
    omega
theorem getI_set (h : List Int) (j i v : Int) : getI (h.set j.toNat v) i = if i.toNat = j.toNat ∧ j.toNat < h.length then v else getI h i := by
 unfold getI; rw [getD_set]
theorem relaxC_flag {s : List Int × Bool} (h : s.2 = true) (b : Bd) : (relaxC s b).2 = true := by unfold relaxC; split <;> first | rfl | exact h
theorem fold_flag : ∀ (bs : List Bd) (s : List Int × Bool), s.2 = true → (bs.foldl relaxC s).2 = true
 | [], _, h => h
 | b :: bs, _s, h => fold_flag bs _ (relaxC_flag h b)
theorem fold_still : ∀ (bs : List Bd) (s : List Int × Bool), (bs.foldl relaxC s).2 = false → (bs.foldl relaxC s).1 = s.1 ∧ ∀ b ∈ bs, getI s.1 b.dst ≤ getI s.1 b.src + b.most
 | [], s, _ => ⟨rfl, fun b hb => by cases hb⟩
 | b :: bs, s, h => by
   simp only [List.foldl_cons] at h ⊢
   by_cases hlt : getI s.1 b.src + b.most < getI s.1 b.dst
   ·rw [fold_flag bs _ (by unfold relaxC; rw [if_pos hlt])] at h; cases h
   ·have e : relaxC s b = s := by unfold relaxC; rw [if_neg hlt]
    rw [e] at h ⊢
    obtain ⟨h1, h2⟩ := fold_still bs s h
    refine ⟨h1, fun x hx => ?_⟩
    rcases List.mem_cons.1 hx with rfl | hx
    ·omega
    ·exact h2 x hx
theorem fold_quiet : ∀ (bs : List Bd) (s : List Int × Bool), (∀ b ∈ bs, getI s.1 b.dst ≤ getI s.1 b.src + b.most) → bs.foldl relaxC s = s
 | [], _, _ => rfl
 | b :: bs, s, h => by
   have e : relaxC s b = s := by unfold relaxC; rw [if_neg (by have := h b (List.mem_cons_self ..); omega)]
   rw [List.foldl_cons, e]
   exact fold_quiet bs s (fun x hx => h x (List.mem_cons_of_mem _ hx))
theorem openedGo_pot {bs : List Bd} : ∀ (r : Nat) (h h' : List Int), openedGo bs r h = some h' → Pot h' bs
 | 0, _, _, e => by simp [openedGo] at e
 | r + 1, h, h', e => by
   simp only [openedGo] at e
   split at e
   ·exact openedGo_pot r _ _ e
   ·rename_i hf
    have hf' : (roundP bs h).2 = false := by simpa using hf
    obtain ⟨h1, h2⟩ := fold_still bs (h, false) hf'
    simp only [Option.some.injEq] at e
    have e1 : h' = h := by rw [← e]; exact h1
    subst e1
    intro b hb
    have := h2 b hb
    simp only at this
    omega
theorem openedP_pot {N : Int} {bs : List Bd} {h : List Int} (e : openedP N bs = some h) : Pot h bs := openedGo_pot _ _ _ e
def Reach (N : Int) (bs : List Bd) (h : List Int) : Prop := ∀ v, 0 ≤ v → v < N → ∃ a l, 0 ≤ a ∧ a < N ∧ Walk a v l ∧ Over bs l ∧ wsum l = getI h v
def LowR (N : Int) (bs : List Bd) (k : Nat) (h : List Int) : Prop := ∀ a v l, 0 ≤ a → a < N → Walk a v l → Over bs l → l.length ≤ k → getI h v ≤ wsum l
theorem relaxC_le (s : List Int × Bool) (b : Bd) (v : Int) : getI (relaxC s b).1 v ≤ getI s.1 v := by
 unfold relaxC
 split
 ·rename_i hlt
  show getI (s.1.set b.dst.toNat _) v ≤ _
  rw [getI_set]
  split
  ·rename_i e
   have : getI s.1 v = getI s.1 b.dst := by unfold getI; rw [e.1]
   omega
  ·exact Int.le_refl _
 ·exact Int.le_refl _
theorem fold_le : ∀ (bs : List Bd) (s : List Int × Bool) (v : Int), getI (bs.foldl relaxC s).1 v ≤ getI s.1 v
 | [], _, _ => Int.le_refl _
 | b :: bs, s, v => Int.le_trans (fold_le bs _ v) (relaxC_le s b v)
theorem relaxC_step {N : Int} {s : List Int × Bool} {b : Bd} (hb : b.valid N) (hN : N ≤ 128) (hl : s.1.length = 128) : getI (relaxC s b).1 b.dst ≤ getI s.1 b.src + b.most := by
 unfold relaxC
 split
 ·show getI (s.1.set b.dst.toNat _) _ ≤ _
  obtain ⟨_, _, v3, v4, _⟩ := hb
  rw [getI_set, if_pos ⟨rfl, by omega⟩]
  exact Int.le_refl _
 ·omega
theorem fold_step {N : Int} (hN : N ≤ 128) : ∀ (bs : List Bd) (s : List Int × Bool), AllValid N bs → s.1.length = 128 → ∀ b ∈ bs, getI (bs.foldl relaxC s).1 b.dst ≤ getI s.1 b.src + b.most
 | [], _, _, _, b, hb => by cases hb
 | x :: bs, s, hv, hl, b, hb => by
   rw [List.foldl_cons]
   rcases List.mem_cons.1 hb with rfl | hb
   ·exact Int.le_trans (fold_le bs _ _) (relaxC_step (hv b (List.mem_cons_self ..)) hN hl)
   ·have := fold_step hN bs (relaxC s x) (fun y hy => hv y (List.mem_cons_of_mem _ hy)) (by rw [relaxC_length]; exact hl) b hb
    have := relaxC_le s x b.src
    omega
theorem walk_last {a v : Int} {p : List Bd} {x : Bd} (h : Walk a v (p ++ [x])) : Walk a x.src p ∧ v = x.dst := by
 obtain ⟨b, h1, h2⟩ := walk_append.1 h
 simp only [Walk] at h2
 exact ⟨by rw [h2.1]; exact h1, h2.2.symm⟩
theorem lowR_round {N : Int} {bs : List Bd} {k : Nat} {h : List Int} (hN : N ≤ 128) (hv : AllValid N bs) (hl : h.length = 128) (H : LowR N bs k h) : LowR N bs (k + 1) (roundP bs h).1 := by
 intro a v l h0 h1 hw ho hlen
 rcases List.eq_nil_or_concat l with rfl | ⟨p, x, rfl⟩
 ·exact Int.le_trans (fold_le bs (h, false) v) (H a v [] h0 h1 hw ho (by simp))
 ·rw [List.concat_eq_append] at hw ho hlen ⊢
  obtain ⟨w1, rfl⟩ := walk_last hw
  have hx : x ∈ bs := ho x (by simp)
  have s1 := fold_step hN bs (h, false) hv hl x hx
  have s2 := H a x.src p h0 h1 w1 ho.left (by simp at hlen; omega)
  simp only at s1
  rw [wsum_append]
  simp only [wsum]
  show getI (bs.foldl relaxC (h, false)).1 x.dst ≤ _
  omega
theorem relaxC_reach {N : Int} {bs : List Bd} {s : List Int × Bool} {b : Bd} (hv : AllValid N bs) (hb : b ∈ bs) (H : Reach N bs s.1) : Reach N bs (relaxC s b).1 := by
 unfold relaxC
 split
 ·intro v h0 h1
  show ∃ a l, 0 ≤ a ∧ a < N ∧ Walk a v l ∧ Over bs l ∧ wsum l = getI (s.1.set b.dst.toNat _) v
  rw [getI_set]
  obtain ⟨v1, v2, v3, v4, _⟩ := hv b hb
  split
  ·rename_i e
   have e1 : v = b.dst := by omega
   subst e1
   obtain ⟨a, l, a0, a1, hw, ho, hs⟩ := H b.src v1 v2
   refine ⟨a, l ++ [b], a0, a1, hw.trans ⟨rfl, rfl⟩, ho.append (Over.one hb), ?_⟩
   rw [wsum_append, hs]; simp [wsum]
  ·exact H v h0 h1
 ·exact H
theorem fold_reach {N : Int} {bs : List Bd} (hv : AllValid N bs) : ∀ (cs : List Bd) (s : List Int × Bool), (∀ c ∈ cs, c ∈ bs) → Reach N bs s.1 → Reach N bs (cs.foldl relaxC s).1
 | [], _, _, H => H
 | c :: cs, _s, hc, H => fold_reach hv cs _ (fun x hx => hc x (List.mem_cons_of_mem _ hx)) (relaxC_reach hv (hc c (List.mem_cons_self ..)) H)
theorem low_quiet {N : Nat} {bs : List Bd} {k : Nat} {h : List Int} (hv : AllValid N bs) (hn : NoNeg bs) (hk : N ≤ k + 1) (HR : Reach N bs h) (HL : LowR N bs k h) : ∀ b ∈ bs, getI h b.dst ≤ getI h b.src + b.most := by
 intro b hb
 obtain ⟨v1, v2, v3, v4, _⟩ := hv b hb
 obtain ⟨a, l, a0, a1, hw, ho, hs⟩ := HR b.src v1 v2
 obtain ⟨l', g1, g2, g3, g4⟩ := walk_short hv hn (l ++ [b]).length (l := l ++ [b]) (Nat.le_refl _) a0 a1 (hw.trans ⟨rfl, rfl⟩) (ho.append (Over.one hb))
 have := HL a b.dst l' a0 a1 g1 g2 (by omega)
 rw [wsum_append, hs] at g4
 simp only [wsum] at g4
 omega
theorem openedGo_some {N : Nat} {bs : List Bd} (hN : N ≤ 128) (hv : AllValid N bs) (hn : NoNeg bs) : ∀ (r k : Nat) (h : List Int), 1 ≤ r → N ≤ k + r → h.length = 128 → Reach N bs h → LowR N bs k h → ∃ h', openedGo bs r h = some h'
 | 0, _, _, h1, _, _, _, _ => by omega
 | r + 1, k, h, _, hk, hl, HR, HL => by
   simp only [openedGo]
   split
   ·rename_i hf
    by_cases hr : r = 0
    ·have := fold_quiet bs (h, false) (low_quiet hv hn (by omega) HR HL)
     rw [roundP, this] at hf; cases hf
    ·exact openedGo_some hN hv hn r (k + 1) _ (by omega) (by omega) (by unfold roundP; rw [foldl_relaxC_length]; exact hl) (fold_reach hv bs (h, false) (fun _ hc => hc) HR) (lowR_round (by omega) hv hl HL)
   ·exact ⟨_, rfl⟩
theorem getI_rep0 (v : Int) : getI (List.replicate 128 0) v = 0 := by
 unfold getI
 simp only [List.getD_eq_getElem?_getD, List.getElem?_replicate]
 split <;> rfl
theorem openedP_some {N : Nat} {bs : List Bd} (hN : N ≤ 128) (hv : AllValid N bs) (hn : NoNeg bs) : ∃ h, openedP N bs = some h := by
 unfold openedP
 refine openedGo_some hN hv hn _ 0 _ (by omega) (by omega) (by simp) ?_ ?_
 ·intro v h0 h1
  exact ⟨v, [], h0, h1, rfl, Over.nil, by rw [getI_rep0]; rfl⟩
 ·intro a v l h0 h1 hw ho hlen
  have : l = [] := List.length_eq_zero_iff.1 (by omega)
  subst this
  rw [getI_rep0]; simp [wsum]
theorem openedP_iff {N : Nat} {bs : List Bd} (hN : N ≤ 128) (hv : AllValid N bs) : (openedP N bs).isSome = true ↔ NoNeg bs := by
 constructor
 ·intro h
  obtain ⟨t, ht⟩ := Option.isSome_iff_exists.1 h
  exact noNeg_of_pot (openedP_pot ht)
 ·intro h
  obtain ⟨t, ht⟩ := openedP_some hN hv h
  rw [ht]; rfl
def isum : List Int → Int
 | [] => 0
 | x :: l => x + isum l
theorem isum_append (a b : List Int) : isum (a ++ b) = isum a + isum b := by
 induction a with
 | nil => simp [isum]
 | cons x l ih => simp only [List.cons_append, isum, ih]; omega
theorem isum_nonneg {l : List Int} (h : ∀ x ∈ l, 0 ≤ x) : 0 ≤ isum l := by
 induction l with
 | nil => simp [isum]
 | cons x l ih =>
   have h1 := h x (by simp)
   have h2 := ih fun y hy => h y (by simp [hy])
   simp only [isum]; omega
theorem isum_le {l : List Int} {c : Int} (h : ∀ x ∈ l, x ≤ c) : isum l ≤ l.length * c := by
 induction l with
 | nil => simp [isum]
 | cons x l ih =>
   have h1 := h x (by simp)
   have h2 := ih fun y hy => h y (by simp [hy])
   simp only [isum, List.length_cons]
   have : ((l.length + 1 : Nat) : Int) * c = l.length * c + c := by rw [Int.natCast_add, Int.add_mul]; simp
   omega
theorem isum_perm {a b : List Int} (h : a.Perm b) : isum a = isum b := by
 induction h with
 | nil => rfl
 | cons x _ ih => simp only [isum, ih]
 | swap x y l => simp only [isum]; omega
 | trans _ _ h1 h2 => exact h1.trans h2
theorem isum_map_mul (c : Int) (l : List Int) : isum (l.map (c * ·)) = c * isum l := by
 induction l with
 | nil => simp [isum]
 | cons x l ih => simp only [List.map_cons, isum, ih, Int.mul_add]
theorem isum_map_sub (f g : Int → Int) (l : List Int) : isum (l.map fun x => f x - g x) = isum (l.map f) - isum (l.map g) := by
 induction l with
 | nil => simp [isum]
 | cons x l ih => simp only [List.map_cons, isum, ih]; omega
def remLe (rest : List Int) (i j : Nat) : Bool := decide (rest.getD j 0 < rest.getD i 0) || (decide (rest.getD j 0 = rest.getD i 0) && decide (i ≤ j))
theorem remLe_trans (rest : List Int) : ∀ a b c, remLe rest a b = true → remLe rest b c = true → remLe rest a c = true := by
 intro a b c h1 h2
 simp only [remLe, Bool.or_eq_true, Bool.and_eq_true, decide_eq_true_eq] at *
 omega
theorem remLe_total (rest : List Int) : ∀ a b, (remLe rest a b || remLe rest b a) = true := by
 intro a b
 simp only [remLe, Bool.or_eq_true, Bool.and_eq_true, decide_eq_true_eq]
 omega
theorem remLe_anti (rest : List Int) {a b : Nat} (h1 : remLe rest a b = true) (h2 : remLe rest b a = true) : a = b := by
 simp only [remLe, Bool.or_eq_true, Bool.and_eq_true, decide_eq_true_eq] at *
 omega
def remOrd (rest : List Int) : List Nat := (List.range rest.length).mergeSort (remLe rest)
theorem remOrd_perm (rest : List Int) : (remOrd rest).Perm (List.range rest.length) := List.mergeSort_perm _ _
theorem remOrd_sorted (rest : List Int) : (remOrd rest).Pairwise fun a b => remLe rest a b = true := List.pairwise_mergeSort (remLe_trans rest) (remLe_total rest) _
theorem remOrd_len (rest : List Int) : (remOrd rest).length = rest.length := by rw [(remOrd_perm rest).length_eq, List.length_range]
theorem remOrd_nodup (rest : List Int) : (remOrd rest).Nodup := (remOrd_perm rest).nodup_iff.2 List.nodup_range
theorem remOrd_lt {rest : List Int} {i : Nat} (h : i ∈ remOrd rest) : i < rest.length := List.mem_range.1 ((remOrd_perm rest).mem_iff.1 h)
theorem remOrd_unique {rest : List Int} {l : List Nat} (hp : l.Perm (List.range rest.length)) (hs : l.Pairwise fun a b => remLe rest a b = true) : l = remOrd rest :=
 (hp.trans (remOrd_perm rest).symm).eq_of_pairwise (fun _ _ _ _ h1 h2 => remLe_anti rest h1 h2) hs (remOrd_sorted rest)
def shWhole (parts : List Int) : Int := max 1 (isum parts)
def shQuo (total : Int) (parts : List Int) : List Int := parts.map fun x => total * x / shWhole parts
def shRem (total : Int) (parts : List Int) : List Int := parts.map fun x => total * x % shWhole parts
def shLeft (total : Int) (parts : List Int) : Int := total - isum (shQuo total parts)
def bump (o : List Int) (i : Nat) : List Int := o.set i (o.getD i 0 + 1)
def sharesP (total : Int) (parts : List Int) : List Int := ((remOrd (shRem total parts)).take (shLeft total parts).toNat).foldl bump (shQuo total parts)
theorem bump_len (o : List Int) (i : Nat) : (bump o i).length = o.length := by simp [bump]
theorem bumps_len (l : List Nat) : ∀ o : List Int, (l.foldl bump o).length = o.length := by
 induction l with
 | nil => intro o; rfl
 | cons i l ih => intro o; rw [List.foldl_cons, ih, bump_len]
theorem sharesP_len (total : Int) (parts : List Int) : (sharesP total parts).length = parts.length := by
 unfold sharesP; rw [bumps_len]; simp [shQuo]
theorem bump_get {o : List Int} {i j : Nat} (hi : i < o.length) : (bump o i).getD j 0 = o.getD j 0 + (if i = j then 1 else 0) := by
 unfold bump
 by_cases h : i = j
 ·subst h; simp [List.getD_eq_getElem?_getD, hi]
 ·simp [List.getD_eq_getElem?_getD, List.getElem?_set_ne h, h]
theorem bumps_get : ∀ (l : List Nat) (o : List Int) (j : Nat), l.Nodup → (∀ i ∈ l, i < o.length) → (l.foldl bump o).getD j 0 = o.getD j 0 + (if j ∈ l then 1 else 0)
 | [], o, j, _, _ => by simp
 | i :: l, o, j, hn, hl => by
   have hn' := List.nodup_cons.1 hn
   rw [List.foldl_cons, bumps_get l (bump o i) j hn'.2 (fun k hk => by rw [bump_len]; exact hl k (by simp [hk])), bump_get (hl i (by simp))]
   by_cases h : i = j
   ·subst h; simp [hn'.1]
   ·have h' : ¬ j = i := fun e => h e.symm
    simp [h, h']
theorem isum_set {o : List Int} {i : Nat} (hi : i < o.length) (v : Int) : isum (o.set i v) = isum o - o.getD i 0 + v := by
 induction o generalizing i with
 | nil => simp at hi
 | cons x l ih =>
   cases i with
   | zero => simp [isum]; omega
   | succ i =>
     simp only [List.set_cons_succ, isum, ih (by simpa using hi)]
     simp only [List.getD_eq_getElem?_getD, List.getElem?_cons_succ]
     omega
theorem isum_bumps : ∀ (l : List Nat) (o : List Int), (∀ i ∈ l, i < o.length) → isum (l.foldl bump o) = isum o + l.length
 | [], o, _ => by simp
 | i :: l, o, h => by
   rw [List.foldl_cons, isum_bumps l (bump o i) (fun k hk => by rw [bump_len]; exact h k (by simp [hk]))]
   unfold bump
   rw [isum_set (h i (by simp))]
   simp only [List.length_cons]; omega
structure ShOk (total : Int) (parts : List Int) : Prop where
 tot : 0 ≤ total
 pos : ∀ x ∈ parts, 0 ≤ x
 any : 0 < isum parts ∨ total = 0
theorem shWhole_pos (parts : List Int) : 1 ≤ shWhole parts := by unfold shWhole; omega
theorem shRem_bd {total : Int} {parts : List Int} {x : Int} (h : x ∈ shRem total parts) : 0 ≤ x ∧ x < shWhole parts := by
 obtain ⟨y, _, rfl⟩ := List.mem_map.1 h
 have := shWhole_pos parts
 exact ⟨Int.emod_nonneg _ (by omega), Int.emod_lt_of_pos _ (by omega)⟩
theorem shRem_sum {total : Int} {parts : List Int} (h : ShOk total parts) : isum (shRem total parts) = shLeft total parts * shWhole parts := by
 have hw := shWhole_pos parts
 have e : isum (shRem total parts) = isum (parts.map (total * ·)) - isum ((shQuo total parts).map (shWhole parts * ·)) := by
  unfold shRem shQuo
  rw [List.map_map, ← isum_map_sub]
  congr 1
  apply List.map_congr_left
  intro x _
  have := Int.mul_ediv_add_emod (total * x) (shWhole parts)
  simp only [Function.comp]
  omega
 rw [e, isum_map_mul, isum_map_mul]
 unfold shLeft
 rw [Int.sub_mul, Int.mul_comm (shWhole parts)]
 rcases h.any with h1 | h1
 ·have : shWhole parts = isum parts := by unfold shWhole; omega
  rw [this]
 ·subst h1; simp
theorem shLeft_nonneg {total : Int} {parts : List Int} (h : ShOk total parts) : 0 ≤ shLeft total parts := by
 have h1 := shRem_sum h
 have h2 := isum_nonneg (l := shRem total parts) fun x hx => (shRem_bd hx).1
 have hw := shWhole_pos parts
 rcases Int.lt_or_le (shLeft total parts) 0 with q | q
 ·have : shLeft total parts * shWhole parts < 0 := Int.mul_neg_of_neg_of_pos q (by omega)
  omega
 ·exact q
theorem shLeft_le {total : Int} {parts : List Int} (h : ShOk total parts) : shLeft total parts ≤ parts.length := by
 have h1 := shRem_sum h
 have h2 := isum_le (l := shRem total parts) (c := shWhole parts) fun x hx => Int.le_of_lt (shRem_bd hx).2
 have hw := shWhole_pos parts
 rw [h1] at h2
 have hl : (shRem total parts).length = parts.length := by simp [shRem]
 rw [hl] at h2
 exact Int.le_of_mul_le_mul_right h2 (by omega)
theorem sharesP_sum {total : Int} {parts : List Int} (h : ShOk total parts) : isum (sharesP total parts) = total := by
 unfold sharesP
 have hl : (shRem total parts).length = parts.length := by simp [shRem]
 rw [isum_bumps _ _ (fun i hi => by have := remOrd_lt (List.mem_of_mem_take hi); rw [hl] at this; simpa [shQuo] using this), List.length_take, remOrd_len, hl]
 have h1 := shLeft_nonneg h
 have h2 := shLeft_le h
 rw [Nat.min_eq_left (by omega)]
 unfold shLeft at *
 omega
end Go.Proofs.YthjmkmjojlfejaaGreat
