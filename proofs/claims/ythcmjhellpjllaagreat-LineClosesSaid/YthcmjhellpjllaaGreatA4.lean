/- Merged text A4 of the chapter line: Sh, Wq, Wq2, Wr, Ws, Wt, Wu, Wv, Ww, Wx, Wy, Wz. No conditions beyond those stated. -/
import Derived.Shelf.Small.Bits
import Derived.Shelf.Small.Wraps
import Derived.Shelf.Strconv.Itoa0
import Derived.Shelf.Sort.Plain
import Derived.Shelf.Slices.Turned
import Derived.Shelf.Slices.Reverse
import Derived.Ground.Names2Prog
import Derived.Shelf.Slices.CompactI
import Derived.Shelf.Slices.SearchI
import Derived.Shelf.Slices.Cells
import Derived.Shelf.Slices.In.SortNone
import Derived.Ground.SlgnProg
import Derived.Shelf.SlicesE.Reverse
import Derived.Test.YthcmjhellpjllaaGreatProg
import Derived.Test.YthcmjhellpjllaaGreatA3b
import Derived.Test.YthcmjhellpjllaaGreatP2
import Derived.Lib.OwnBridge
import Derived.Deep.LoopGhost
import Derived.Test.YthcmjhellpjllaaGreatA3
import Derived.WalkSpells
import Derived.Deep.DeepCutAuto
import Derived.Test.YthcmjhellpjllaaGreatA2
import Derived.Lib.SliceRun
import Derived.Deep.RegionHeld3
import Derived.Deep.RegionWith
import Derived.Lib.AppendZerosOnto

/-
  DERIVED: THE SHELF's CONTRACTS AT THIS DUMP, IN PLAIN WORDS (tools/lay-plain.mjs out of 'TryzShelf.lean', which tools/lay-shelf.mjs wrote): THE SAME DECLARATIONS UNDER THE SAME NAMES: 'import', 'namespace', 'open', 'def', 'theorem' AND NOTHING ELSE: no command of the shelf's: FOR A HAND-IN. Each laying: the table of numbers ('.._ren') and one theorem, a field a fact of the dump's own or the kernel's comparison; each contract: ONE APPLICATION.
-/
namespace Go.Proofs
open Go.Shelf
def Tryz.lays128_ren : Go.Shelf.Ren := ⟨fun | 128 => 96 | n => n, fun | 51 => 135 | 3 => 3 | 4 => 4 | 46 => 120 | 5 => 5 | 9 => 9 | n => n, fun | n => n⟩
theorem Tryz.lays128 : Go.Proofs.Lays.n128 Tryz.prog Tryz.lays128_ren := {
  mixed := by kernel_rfl
  f128 := Tryz.func96.trans (congrArg some (by kernel_rfl))
  t3 := Tryz.underlying3
  a3 := Tryz.isAgg3
  z3 := Tryz.sizeOf3
  v3 := Tryz.zeroValue3
  t4 := Tryz.underlying4
  a4 := Tryz.isAgg4
  z4 := Tryz.sizeOf4
  v4 := Tryz.zeroValue4
  t5 := Tryz.underlying5
  a5 := Tryz.isAgg5
  z5 := Tryz.sizeOf5
  v5 := Tryz.zeroValue5
  t9 := Tryz.underlying9
  a9 := Tryz.isAgg9
  z9 := Tryz.sizeOf9
  v9 := Tryz.zeroValue9
  t46 := Tryz.underlying120
  a46 := Tryz.isAgg120
  z46 := Tryz.sizeOf120
  v46 := Tryz.zeroValue120
  t51 := Tryz.underlying135
  a51 := Tryz.isAgg135
  z51 := Tryz.sizeOf135
  v51 := Tryz.zeroValue135 }
/-- bits.Len32: "Len32 returns the minimum number of bits required to represent x; the result is 0 for x == 0.": IT RETURNS 'Lib.bitLen x'; the world is as it was. ('h0', 'h1': x is a uint32.) (LAID: no walk: one application.) -/
theorem Tryz.bits_Len32 (x : Int) (w : World) (h0 : 0 ≤ x) (h1 : x ≤ 4294967295) :
    Calls Tryz.prog 96 #[.int .u32 x] w fun e w' => e = .returned (.int .i64 (Lib.bitLen x.toNat)) ∧ w' = w := Any.bits_Len32 Tryz.lays128 x w h0 h1
def Tryz.lays125_ren : Go.Shelf.Ren := ⟨fun | 125 => 80 | 128 => 96 | 129 => 97 | n => n, fun | 46 => 120 | 3 => 3 | 51 => 135 | 53 => 137 | 4 => 4 | 5 => 5 | 9 => 9 | n => n, fun | n => n⟩
theorem Tryz.lays125 : Go.Proofs.Lays.n125 Tryz.prog Tryz.lays125_ren := {
  mixed := by kernel_rfl
  f125 := Tryz.func80.trans (congrArg some (by kernel_rfl))
  f128 := Tryz.func96.trans (congrArg some (by kernel_rfl))
  f129 := Tryz.func97.trans (congrArg some (by kernel_rfl))
  t3 := Tryz.underlying3
  a3 := Tryz.isAgg3
  z3 := Tryz.sizeOf3
  v3 := Tryz.zeroValue3
  t4 := Tryz.underlying4
  a4 := Tryz.isAgg4
  z4 := Tryz.sizeOf4
  v4 := Tryz.zeroValue4
  t5 := Tryz.underlying5
  a5 := Tryz.isAgg5
  z5 := Tryz.sizeOf5
  v5 := Tryz.zeroValue5
  t9 := Tryz.underlying9
  a9 := Tryz.isAgg9
  z9 := Tryz.sizeOf9
  v9 := Tryz.zeroValue9
  t46 := Tryz.underlying120
  a46 := Tryz.isAgg120
  z46 := Tryz.sizeOf120
  v46 := Tryz.zeroValue120
  t51 := Tryz.underlying135
  a51 := Tryz.isAgg135
  z51 := Tryz.sizeOf135
  v51 := Tryz.zeroValue135
  t53 := Tryz.underlying137
  a53 := Tryz.isAgg137
  z53 := Tryz.sizeOf137
  v53 := Tryz.zeroValue137 }
/-- bits.Len: "Len returns the minimum number of bits required to represent x; the result is 0 for x == 0.": IT RETURNS 'Lib.bitLen x'; the world is as it was. (A uint has 64 bits in the model.) ITS CALLEE bits.Len64 IS MET BY ITS OWN CONTRACT OFF THE SHELF (lay that first). (LAID: no walk: one application.) -/
theorem Tryz.bits_Len (x : Int) (w : World) (h0 : 0 ≤ x) (h1 : x ≤ 18446744073709551615) :
    Calls Tryz.prog 80 #[.int .u64 x] w fun e w' => e = .returned (.int .i64 (Lib.bitLen x.toNat)) ∧ w' = w := Any.bits_Len Tryz.lays125 x w h0 h1
def Tryz.lays215_ren : Go.Shelf.Ren := ⟨fun | 215 => 76 | n => n, fun | 3 => 3 | 4 => 4 | n => n, fun | n => n⟩
theorem Tryz.lays215 : Go.Proofs.Lays.n215 Tryz.prog Tryz.lays215_ren := {
  mixed := by kernel_rfl
  f215 := Tryz.func76.trans (congrArg some (by kernel_rfl))
  t3 := Tryz.underlying3
  a3 := Tryz.isAgg3
  z3 := Tryz.sizeOf3
  v3 := Tryz.zeroValue3
  t4 := Tryz.underlying4
  a4 := Tryz.isAgg4
  z4 := Tryz.sizeOf4
  v4 := Tryz.zeroValue4 }
open Go.RowKit in
/-- cmp.isNaN at int: 'x != x': false. (LAID: no walk: one application.) -/
theorem Tryz.cmp_isNaN_int (x : Int) (w : World) :
    Calls Tryz.prog 76 #[.int .i64 x] w fun e w' => e = .returned (.bool false) ∧ w' = w := Any.cmp_isNaN_int Tryz.lays215 x w
def Tryz.lays122_ren : Go.Shelf.Ren := ⟨fun | 122 => 56 | 215 => 76 | n => n, fun | 3 => 3 | 4 => 4 | n => n, fun | n => n⟩
theorem Tryz.lays122 : Go.Proofs.Lays.n122 Tryz.prog Tryz.lays122_ren := {
  mixed := by kernel_rfl
  f122 := Tryz.func56.trans (congrArg some (by kernel_rfl))
  f215 := Tryz.func76.trans (congrArg some (by kernel_rfl))
  t3 := Tryz.underlying3
  a3 := Tryz.isAgg3
  z3 := Tryz.sizeOf3
  v3 := Tryz.zeroValue3
  t4 := Tryz.underlying4
  a4 := Tryz.isAgg4
  z4 := Tryz.sizeOf4
  v4 := Tryz.zeroValue4 }
open Go.RowKit in
/-- cmp.Compare at int: "Compare returns -1 if x is less than y, 0 if x equals y, +1 if x is greater than y.": IT RETURNS 'Lib.compareInt x y'; the world is as it was. (LAID: no walk: one application.) -/
theorem Tryz.cmp_Compare_int (x y : Int) (w : World) :
    Calls Tryz.prog 56 #[.int .i64 x, .int .i64 y] w fun e w' => e = .returned (.int .i64 (Lib.compareInt x y)) ∧ w' = w := Any.cmp_Compare_int Tryz.lays122 x y w
def Tryz.lays129_ren : Go.Shelf.Ren := ⟨fun | 129 => 97 | n => n, fun | 53 => 137 | 3 => 3 | 4 => 4 | 46 => 120 | 5 => 5 | 9 => 9 | n => n, fun | n => n⟩
theorem Tryz.lays129 : Go.Proofs.Lays.n129 Tryz.prog Tryz.lays129_ren := {
  mixed := by kernel_rfl
  f129 := Tryz.func97.trans (congrArg some (by kernel_rfl))
  t3 := Tryz.underlying3
  a3 := Tryz.isAgg3
  z3 := Tryz.sizeOf3
  v3 := Tryz.zeroValue3
  t4 := Tryz.underlying4
  a4 := Tryz.isAgg4
  z4 := Tryz.sizeOf4
  v4 := Tryz.zeroValue4
  t5 := Tryz.underlying5
  a5 := Tryz.isAgg5
  z5 := Tryz.sizeOf5
  v5 := Tryz.zeroValue5
  t9 := Tryz.underlying9
  a9 := Tryz.isAgg9
  z9 := Tryz.sizeOf9
  v9 := Tryz.zeroValue9
  t46 := Tryz.underlying120
  a46 := Tryz.isAgg120
  z46 := Tryz.sizeOf120
  v46 := Tryz.zeroValue120
  t53 := Tryz.underlying137
  a53 := Tryz.isAgg137
  z53 := Tryz.sizeOf137
  v53 := Tryz.zeroValue137 }
/-- bits.Len64: "Len64 returns the minimum number of bits required to represent x; the result is 0 for x == 0.": IT RETURNS 'Lib.bitLen x'; the world is as it was. ('h0', 'h1': x is a uint64.) (LAID: no walk: one application.) -/
theorem Tryz.bits_Len64 (x : Int) (w : World) (h0 : 0 ≤ x) (h1 : x ≤ 18446744073709551615) :
    Calls Tryz.prog 97 #[.int .u64 x] w fun e w' => e = .returned (.int .i64 (Lib.bitLen x.toNat)) ∧ w' = w := Any.bits_Len64 Tryz.lays129 x w h0 h1
def Tryz.lays189_ren : Go.Shelf.Ren := ⟨fun | 189 => 70 | 125 => 80 | 257 => 79 | 128 => 96 | 129 => 97 | 294 => 87 | 295 => 88 | 296 => 89 | 297 => 90 | 298 => 91 | 299 => 92 | 216 => 93 | 300 => 94 | 301 => 95 | 328 => 99 | 329 => 100 | 330 => 101 | 331 => 102 | 332 => 103 | 215 => 76 | 343 => 105 | n => n, fun | 28 => 35 | 3 => 3 | 46 => 120 | 0 => 0 | 51 => 135 | 53 => 137 | 4 => 4 | 183 => 128 | 182 => 127 | 131 => 66 | 5 => 5 | 9 => 9 | 218 => 138 | 222 => 142 | 228 => 144 | 229 => 145 | n => n, fun | n => n⟩
theorem Tryz.lays189 : Go.Proofs.Lays.n189 Tryz.prog Tryz.lays189_ren := {
  mixed := by kernel_rfl
  f125 := Tryz.func80.trans (congrArg some (by kernel_rfl))
  f128 := Tryz.func96.trans (congrArg some (by kernel_rfl))
  f129 := Tryz.func97.trans (congrArg some (by kernel_rfl))
  f189 := Tryz.func70.trans (congrArg some (by kernel_rfl))
  f215 := Tryz.func76.trans (congrArg some (by kernel_rfl))
  f216 := Tryz.func93.trans (congrArg some (by kernel_rfl))
  f257 := Tryz.func79.trans (congrArg some (by kernel_rfl))
  f294 := Tryz.func87.trans (congrArg some (by kernel_rfl))
  f295 := Tryz.func88.trans (congrArg some (by kernel_rfl))
  f296 := Tryz.func89.trans (congrArg some (by kernel_rfl))
  f297 := Tryz.func90.trans (congrArg some (by kernel_rfl))
  f298 := Tryz.func91.trans (congrArg some (by kernel_rfl))
  f299 := Tryz.func92.trans (congrArg some (by kernel_rfl))
  f300 := Tryz.func94.trans (congrArg some (by kernel_rfl))
  f301 := Tryz.func95.trans (congrArg some (by kernel_rfl))
  f328 := Tryz.func99.trans (congrArg some (by kernel_rfl))
  f329 := Tryz.func100.trans (congrArg some (by kernel_rfl))
  f330 := Tryz.func101.trans (congrArg some (by kernel_rfl))
  f331 := Tryz.func102.trans (congrArg some (by kernel_rfl))
  f332 := Tryz.func103.trans (congrArg some (by kernel_rfl))
  f343 := Tryz.func105.trans (congrArg some (by kernel_rfl))
  t0 := Tryz.underlying0
  a0 := Tryz.isAgg0
  z0 := Tryz.sizeOf0
  v0 := Tryz.zeroValue0
  t3 := Tryz.underlying3
  a3 := Tryz.isAgg3
  z3 := Tryz.sizeOf3
  v3 := Tryz.zeroValue3
  t4 := Tryz.underlying4
  a4 := Tryz.isAgg4
  z4 := Tryz.sizeOf4
  v4 := Tryz.zeroValue4
  t5 := Tryz.underlying5
  a5 := Tryz.isAgg5
  z5 := Tryz.sizeOf5
  v5 := Tryz.zeroValue5
  t9 := Tryz.underlying9
  a9 := Tryz.isAgg9
  z9 := Tryz.sizeOf9
  v9 := Tryz.zeroValue9
  t28 := Tryz.underlying35
  a28 := Tryz.isAgg35
  z28 := Tryz.sizeOf35
  v28 := Tryz.zeroValue35
  t46 := Tryz.underlying120
  a46 := Tryz.isAgg120
  z46 := Tryz.sizeOf120
  v46 := Tryz.zeroValue120
  t51 := Tryz.underlying135
  a51 := Tryz.isAgg135
  z51 := Tryz.sizeOf135
  v51 := Tryz.zeroValue135
  t53 := Tryz.underlying137
  a53 := Tryz.isAgg137
  z53 := Tryz.sizeOf137
  v53 := Tryz.zeroValue137
  t131 := Tryz.underlying66
  a131 := Tryz.isAgg66
  z131 := Tryz.sizeOf66
  v131 := Tryz.zeroValue66
  t182 := Tryz.underlying127
  a182 := Tryz.isAgg127
  z182 := Tryz.sizeOf127
  v182 := Tryz.zeroValue127
  t183 := Tryz.underlying128
  a183 := Tryz.isAgg128
  z183 := Tryz.sizeOf128
  v183 := Tryz.zeroValue128
  t218 := Tryz.underlying138
  a218 := Tryz.isAgg138
  z218 := Tryz.sizeOf138
  v218 := Tryz.zeroValue138
  t222 := Tryz.underlying142
  a222 := Tryz.isAgg142
  z222 := Tryz.sizeOf142
  v222 := Tryz.zeroValue142
  t228 := Tryz.underlying144
  a228 := Tryz.isAgg144
  z228 := Tryz.sizeOf144
  v228 := Tryz.zeroValue144
  t229 := Tryz.underlying145
  a229 := Tryz.isAgg145
  z229 := Tryz.sizeOf145
  v229 := Tryz.zeroValue145 }
open Go.Sort Go.RowKit in
theorem Tryz.slices_Sort_int (blk off cap : Nat) (zs : List Int) (w : World) (hH : Holds (Value.int .i64) w blk off zs.toArray) (hblk : blk < w.heap.size) (hsz : zs.length < 4611686018427387904) :
    Calls Tryz.prog 70 #[.slice (some ⟨blk, off, none⟩) zs.length cap] w fun e w' =>
      e = .returned (.tuple #[]) ∧ ∃ n os, w' = grow (putRow (Value.int .i64) (Sort.ahead w n) blk off (zs.mergeSort fun x y => decide (x ≤ y)).toArray) os := Any.slices_Sort_int Tryz.lays189 blk off cap zs w hH hblk hsz
def Tryz.lays108_ren : Go.Shelf.Ren := ⟨fun | 108 => 82 | n => n, fun | 28 => 35 | 3 => 3 | 0 => 0 | 4 => 4 | n => n, fun | n => n⟩
theorem Tryz.lays108 : Go.Proofs.Lays.n108 Tryz.prog Tryz.lays108_ren := {
  mixed := by kernel_rfl
  f108 := Tryz.func82.trans (congrArg some (by kernel_rfl))
  t0 := Tryz.underlying0
  a0 := Tryz.isAgg0
  z0 := Tryz.sizeOf0
  v0 := Tryz.zeroValue0
  t3 := Tryz.underlying3
  a3 := Tryz.isAgg3
  z3 := Tryz.sizeOf3
  v3 := Tryz.zeroValue3
  t4 := Tryz.underlying4
  a4 := Tryz.isAgg4
  z4 := Tryz.sizeOf4
  v4 := Tryz.zeroValue4
  t28 := Tryz.underlying35
  a28 := Tryz.isAgg35
  z28 := Tryz.sizeOf35
  v28 := Tryz.zeroValue35 }
open Go.Lib in
/-- slices.Index at []int: "Index returns the index of the first occurrence of v in s, or -1 if not present.": IT RETURNS 'Lib.idxOf (the elements) v'; the world is as it was. 'zs': what the cells behind the slice's address hold (its spare capacity too, if you have it); 'zs.take n': its elements. (LAID: no walk: one application.) -/
theorem Tryz.slices_Index_int (b off n c : Nat) (zs : List Int) (x : Int) (w : World) (hz : n ≤ zs.length) (hbig : n ≤ 9223372036854775807) (hc : ∀ j, j < zs.length → w.cell? ⟨b, off + j, none⟩ = some (.int .i64 (zs.getD j 0))) :
    Calls Tryz.prog 82 #[.slice (some ⟨b, off, none⟩) n c, .int .i64 x] w fun e w' => e = .returned (.int .i64 (Lib.idxOf (zs.take n) x)) ∧ w' = w := Any.slices_Index_int Tryz.lays108 b off n c zs x w hz hbig hc
open Go.Lib in
/-- The same at a slice of length 0, a nil one too: no cell is known, none is asked for. (LAID: no walk: one application.) -/
theorem Tryz.slices_Index_int_empty (a : Option Addr) (c : Nat) (x : Int) (w : World) :
    Calls Tryz.prog 82 #[.slice a 0 c, .int .i64 x] w fun e w' => e = .returned (.int .i64 (Lib.idxOf [] x)) ∧ w' = w := Any.slices_Index_int_empty Tryz.lays108 a c x w
def Tryz.lays107_ren : Go.Shelf.Ren := ⟨fun | 107 => 74 | 108 => 82 | n => n, fun | 28 => 35 | 3 => 3 | 4 => 4 | 0 => 0 | n => n, fun | n => n⟩
theorem Tryz.lays107 : Go.Proofs.Lays.n107 Tryz.prog Tryz.lays107_ren := {
  mixed := by kernel_rfl
  f107 := Tryz.func74.trans (congrArg some (by kernel_rfl))
  f108 := Tryz.func82.trans (congrArg some (by kernel_rfl))
  t0 := Tryz.underlying0
  a0 := Tryz.isAgg0
  z0 := Tryz.sizeOf0
  v0 := Tryz.zeroValue0
  t3 := Tryz.underlying3
  a3 := Tryz.isAgg3
  z3 := Tryz.sizeOf3
  v3 := Tryz.zeroValue3
  t4 := Tryz.underlying4
  a4 := Tryz.isAgg4
  z4 := Tryz.sizeOf4
  v4 := Tryz.zeroValue4
  t28 := Tryz.underlying35
  a28 := Tryz.isAgg35
  z28 := Tryz.sizeOf35
  v28 := Tryz.zeroValue35 }
open Go.Lib in
/-- slices.Contains at []int: "Contains reports whether v is present in s.": IT RETURNS 'elements.contains v'; the world is as it was. ITS CALLEE slices.Index IS MET BY ITS OWN CONTRACT OFF THE SHELF (lay that first): no loop is walked here. (LAID: no walk: one application.) -/
theorem Tryz.slices_Contains_int (b off n c : Nat) (zs : List Int) (x : Int) (w : World) (hz : n ≤ zs.length) (hbig : n ≤ 9223372036854775807) (hc : ∀ j, j < zs.length → w.cell? ⟨b, off + j, none⟩ = some (.int .i64 (zs.getD j 0))) :
    Calls Tryz.prog 74 #[.slice (some ⟨b, off, none⟩) n c, .int .i64 x] w fun e w' => e = .returned (.bool ((zs.take n).contains x)) ∧ w' = w := Any.slices_Contains_int Tryz.lays107 b off n c zs x w hz hbig hc
open Go.Lib in
/-- The same at a slice of length 0, a nil one too. (LAID: no walk: one application.) -/
theorem Tryz.slices_Contains_int_empty (a : Option Addr) (c : Nat) (x : Int) (w : World) :
    Calls Tryz.prog 74 #[.slice a 0 c, .int .i64 x] w fun e w' => e = .returned (.bool false) ∧ w' = w := Any.slices_Contains_int_empty Tryz.lays107 a c x w
def Tryz.lays112_ren : Go.Shelf.Ren := ⟨fun | 112 => 44 | n => n, fun | 28 => 35 | 3 => 3 | 4 => 4 | 0 => 0 | n => n, fun | n => n⟩
theorem Tryz.lays112 : Go.Proofs.Lays.n112 Tryz.prog Tryz.lays112_ren := {
  mixed := by kernel_rfl
  f112 := Tryz.func44.trans (congrArg some (by kernel_rfl))
  t0 := Tryz.underlying0
  a0 := Tryz.isAgg0
  z0 := Tryz.sizeOf0
  v0 := Tryz.zeroValue0
  t3 := Tryz.underlying3
  a3 := Tryz.isAgg3
  z3 := Tryz.sizeOf3
  v3 := Tryz.zeroValue3
  t4 := Tryz.underlying4
  a4 := Tryz.isAgg4
  z4 := Tryz.sizeOf4
  v4 := Tryz.zeroValue4
  t28 := Tryz.underlying35
  a28 := Tryz.isAgg35
  z28 := Tryz.sizeOf35
  v28 := Tryz.zeroValue35 }
open Go.RowKit Go.Lib Go.Sort in
/-- slices.Reverse at []int, over an array: Go's loop from the two ends inward is walked; it makes 'Sort.reverseLoop 0 (len - 1)', which is 'Array.reverse' (Derived/Lib/SlicesMore.lean). (LAID: no walk: one application.) -/
theorem Tryz.slices_Reverse_int_arr (blk off cap : Nat) (d : Array Int) (w : World) (hH : Holds encI w blk off d) (hsz : d.size ≤ 9223372036854775807) :
    Calls Tryz.prog 44 #[.slice (some ⟨blk, off, none⟩) d.size cap] w fun e w' => e = .returned (.tuple #[]) ∧ ∃ n, w' = putRow encI (Sort.ahead w n) blk off d.reverse := Any.slices_Reverse_int_arr Tryz.lays112 blk off cap d w hH hsz
open Go.RowKit Go.Lib Go.Sort in
/-- slices.Reverse at []int: "Reverse reverses the elements of the slice in place.": THE SLICE's CELLS HOLD 'zs.reverse' BEHIND THE CALL; all else is as it was, but for the count of draws (the exchange 's[i], s[j] = s[j], s[i]' draws its order, once a round). IN THE WORDS OF slices.Sort's CONTRACT: 'Holds': the cells hold zs and none is frozen; 'putRow': the world with those cells holding another array. A slice of length 0 that is not nil is among them ('zs = []'); nil: '.._nil'. (LAID: no walk: one application.) -/
theorem Tryz.slices_Reverse_int (blk off cap : Nat) (zs : List Int) (w : World) (hH : Holds (Value.int .i64) w blk off zs.toArray) (hsz : zs.length ≤ 9223372036854775807) :
    Calls Tryz.prog 44 #[.slice (some ⟨blk, off, none⟩) zs.length cap] w fun e w' => e = .returned (.tuple #[]) ∧ ∃ n, w' = putRow (Value.int .i64) (Sort.ahead w n) blk off zs.reverse.toArray := Any.slices_Reverse_int Tryz.lays112 blk off cap zs w hH hsz
open Go.RowKit Go.Lib Go.Sort in
/-- The same at a slice of length 0, a nil one too: nothing is read, nothing written, nothing drawn. (LAID: no walk: one application.) -/
theorem Tryz.slices_Reverse_int_empty (a : Option Addr) (cap : Nat) (w : World) :
    Calls Tryz.prog 44 #[.slice a 0 cap] w fun e w' => e = .returned (.tuple #[]) ∧ w' = w := Any.slices_Reverse_int_empty Tryz.lays112 a cap w
def Tryz.laysNm220_ren : Go.Shelf.Ren := ⟨fun | 20 => 71 | n => n, fun | 22 => 35 | 3 => 3 | 4 => 4 | 0 => 0 | n => n, fun | n => n⟩
theorem Tryz.laysNm220 : Go.Proofs.Lays2.n20 Tryz.prog Tryz.laysNm220_ren := {
  mixed := by kernel_rfl
  f20 := Tryz.func71.trans (congrArg some (by kernel_rfl))
  t0 := Tryz.underlying0
  a0 := Tryz.isAgg0
  z0 := Tryz.sizeOf0
  v0 := Tryz.zeroValue0
  t3 := Tryz.underlying3
  a3 := Tryz.isAgg3
  z3 := Tryz.sizeOf3
  v3 := Tryz.zeroValue3
  t4 := Tryz.underlying4
  a4 := Tryz.isAgg4
  z4 := Tryz.sizeOf4
  v4 := Tryz.zeroValue4
  t22 := Tryz.underlying35
  a22 := Tryz.isAgg35
  z22 := Tryz.sizeOf35
  v22 := Tryz.zeroValue35
  i3 := by kernel_rfl }
open Go.RowKit Go.Lib Go.Sort in
/-- slices.Compact at []int, over an array: the library's two loops are walked. (LAID: no walk: one application.) -/
theorem Tryz.slices_Compact_int_arr (blk off cap : Nat) (d : Array Int) (w : World) (hH : Holds encI w blk off d) (hsz : d.size ≤ 9223372036854775807) (hcap : d.size ≤ cap) :
    Calls Tryz.prog 71 #[.slice (some ⟨blk, off, none⟩) d.size cap] w fun e w' => e = .returned (.slice (some ⟨blk, off, none⟩) (compactUpTo d d.size).length cap) ∧ ∃ q, w' = putRow encI (Sort.ahead w q) blk off (compactUpTo d d.size ++ List.replicate (d.size - (compactUpTo d d.size).length) 0).toArray := Any.slices_Compact_int_arr Tryz.laysNm220 blk off cap d w hH hsz hcap
open Go.RowKit Go.Lib Go.Sort in
/-- slices.Compact at []int: "Compact replaces consecutive runs of equal elements with a single copy. This is like the uniq command found on Unix. Compact modifies the contents of the slice s and returns the modified slice, which may have a smaller length. Compact zeroes the elements between the new length and the original length. The result preserves the nilness of s.": IT RETURNS THE SLICE CUT TO 'Lib.compact zs'; ITS CELLS HOLD 'Lib.compact zs', THEN ZERO VALUES up to the old length; all else is as it was, but for the count of draws. IN THE WORDS OF slices.Sort's CONTRACT ('Holds', 'putRow'): so the everyday 'slices.Sort(xs); xs = slices.Compact(xs)' goes from the one contract to the other. It asks 'zs.length ≤ cap' (every slice's: the reslicing 's[:k]' looks at it). Length 0, nil: '.._empty'. (LAID: no walk: one application.) -/
theorem Tryz.slices_Compact_int (blk off cap : Nat) (zs : List Int) (w : World) (hH : Holds (Value.int .i64) w blk off zs.toArray) (hsz : zs.length ≤ 9223372036854775807) (hcap : zs.length ≤ cap) :
    Calls Tryz.prog 71 #[.slice (some ⟨blk, off, none⟩) zs.length cap] w fun e w' => e = .returned (.slice (some ⟨blk, off, none⟩) (Lib.compact zs).length cap) ∧ ∃ q, w' = putRow (Value.int .i64) (Sort.ahead w q) blk off (Lib.compact zs ++ List.replicate (zs.length - (Lib.compact zs).length) 0).toArray := Any.slices_Compact_int Tryz.laysNm220 blk off cap zs w hH hsz hcap
open Go.RowKit Go.Lib Go.Sort in
/-- The same at a slice of length 0, a nil one too: it comes back as it is. (LAID: no walk: one application.) -/
theorem Tryz.slices_Compact_int_empty (a : Option Addr) (cap : Nat) (w : World) :
    Calls Tryz.prog 71 #[.slice a 0 cap] w fun e w' => e = .returned (.slice a 0 cap) ∧ w' = w := Any.slices_Compact_int_empty Tryz.laysNm220 a cap w
def Tryz.laysNm237_ren : Go.Shelf.Ren := ⟨fun | 37 => 76 | n => n, fun | 3 => 3 | 4 => 4 | n => n, fun | n => n⟩
theorem Tryz.laysNm237 : Go.Proofs.Lays2.n37 Tryz.prog Tryz.laysNm237_ren := {
  mixed := by kernel_rfl
  f37 := Tryz.func76.trans (congrArg some (by kernel_rfl))
  t3 := Tryz.underlying3
  a3 := Tryz.isAgg3
  z3 := Tryz.sizeOf3
  v3 := Tryz.zeroValue3
  t4 := Tryz.underlying4
  a4 := Tryz.isAgg4
  z4 := Tryz.sizeOf4
  v4 := Tryz.zeroValue4 }
open Go.RowKit Go.Lib in
/-- cmp.isNaN[int]: 'x != x': false. (LAID: no walk: one application.) -/
theorem Tryz.cmp_isNaN_int2 (x : Int) (w : World) :
    Calls Tryz.prog 76 #[.int .i64 x] w fun e w' => e = .returned (.bool false) ∧ w' = w := Any.cmp_isNaN_int2 Tryz.laysNm237 x w
def Tryz.laysNm231_ren : Go.Shelf.Ren := ⟨fun | 31 => 93 | 37 => 76 | n => n, fun | 3 => 3 | 4 => 4 | n => n, fun | n => n⟩
theorem Tryz.laysNm231 : Go.Proofs.Lays2.n31 Tryz.prog Tryz.laysNm231_ren := {
  mixed := by kernel_rfl
  f31 := Tryz.func93.trans (congrArg some (by kernel_rfl))
  f37 := Tryz.func76.trans (congrArg some (by kernel_rfl))
  t3 := Tryz.underlying3
  a3 := Tryz.isAgg3
  z3 := Tryz.sizeOf3
  v3 := Tryz.zeroValue3
  t4 := Tryz.underlying4
  a4 := Tryz.isAgg4
  z4 := Tryz.sizeOf4
  v4 := Tryz.zeroValue4 }
open Go.RowKit Go.Lib in
/-- cmp.Less[int]: "Less reports whether x is less than y.": 'x < y'; the world is as it was. (LAID: no walk: one application.) -/
theorem Tryz.cmp_Less_int2 (x y : Int) (w : World) :
    Calls Tryz.prog 93 #[.int .i64 x, .int .i64 y] w fun e w' => e = .returned (.bool (decide (x < y))) ∧ w' = w := Any.cmp_Less_int2 Tryz.laysNm231 x y w
open Go.RowKit Go.Lib Go.Sort in
/-- slices.Reverse at []int, of an argument: the n cells hold the elements in reverse. (LAID: no walk: one application.) -/
theorem Tryz.slices_Reverse_int_cells (b off n c : Nat) (zs : List Int) (w : World) (hz : n ≤ zs.length) (hbig : n ≤ 9223372036854775807) (hc : ∀ j, j < zs.length → w.cell? ⟨b, off + j, none⟩ = some (.int .i64 (zs.getD j 0))) (hf : ∀ j, j < n → w.frozen? ⟨b, off + j, none⟩ = false) :
    Calls Tryz.prog 44 #[.slice (some ⟨b, off, none⟩) n c] w fun e w' => e = .returned (.tuple #[]) ∧ ∃ q, w' = (w.drewN q).setCells b off ((zs.take n).reverse.map (Value.int .i64)) := Any.slices_Reverse_int_cells Tryz.lays112 b off n c zs w hz hbig hc hf
open Go.RowKit Go.Lib Go.Sort in
/-- slices.Compact at []int, of an argument: the slice cut to 'Lib.compact (elements)'; the n cells hold that, then zeros. (LAID: no walk: one application.) -/
theorem Tryz.slices_Compact_int_cells (b off n c : Nat) (zs : List Int) (w : World) (hz : n ≤ zs.length) (hbig : n ≤ 9223372036854775807) (hcap : n ≤ c) (hc : ∀ j, j < zs.length → w.cell? ⟨b, off + j, none⟩ = some (.int .i64 (zs.getD j 0))) (hf : ∀ j, j < n → w.frozen? ⟨b, off + j, none⟩ = false) :
    Calls Tryz.prog 71 #[.slice (some ⟨b, off, none⟩) n c] w fun e w' => e = .returned (.slice (some ⟨b, off, none⟩) (Lib.compact (zs.take n)).length c) ∧ ∃ q, w' = (w.drewN q).setCells b off ((Lib.compact (zs.take n) ++ List.replicate (n - (Lib.compact (zs.take n)).length) 0).map (Value.int .i64)) := Any.slices_Compact_int_cells Tryz.laysNm220 b off n c zs w hz hbig hcap hc hf
open Go.RowKit Go.Sort in
/-- .. and plain. (LAID: no walk: one application.) -/
theorem Tryz.slices_Sort_int_none (p : Option Addr) (cap : Nat) (w : World) :
    Calls Tryz.prog 70 #[.slice p 0 cap] w fun e w' => e = .returned (.tuple #[]) ∧ w' = w := Any.slices_Sort_int_none Tryz.lays189 p cap w
def Tryz.laysSlE35_f44_ren : Go.Shelf.Ren := ⟨fun | 35 => 44 | n => n, fun | 22 => 35 | 23 => 3 | 3 => 3 | 4 => 4 | 0 => 0 | n => n, fun | n => n⟩
theorem Tryz.laysSlE35_f44 : Go.Proofs.SlLaysE.n35 Tryz.prog Tryz.laysSlE35_f44_ren := {
  mixed := by kernel_rfl
  f35 := ⟨Tryz.f44.name, by decide, Tryz.func44.trans (congrArg some (by kernel_rfl))⟩
  t0 := Tryz.underlying0
  a0 := Tryz.isAgg0
  z0 := Tryz.sizeOf0
  v0 := Tryz.zeroValue0
  t3 := Tryz.underlying3
  a3 := Tryz.isAgg3
  z3 := Tryz.sizeOf3
  v3 := Tryz.zeroValue3
  t4 := Tryz.underlying4
  a4 := Tryz.isAgg4
  z4 := Tryz.sizeOf4
  v4 := Tryz.zeroValue4
  t22 := Tryz.underlying35
  a22 := Tryz.isAgg35
  z22 := Tryz.sizeOf35
  v22 := Tryz.zeroValue35
  a23 := Tryz.isAgg3
  z23 := Tryz.sizeOf3 }
open Go.RowKit Go.Lib Go.Sort in
/-- slices.Reverse, over an array: Go's loop from the two ends inward is walked; it makes 'Sort.reverseLoop 0 (len - 1)', which is 'Array.reverse' (Derived/Lib/SlicesMore.lean). (LAID AT THE INSTANCE 'slices.Reverse[[]int,int]': no walk: one application.) -/
theorem Tryz.slices_Reverse_arr {α : Type} [Inhabited α] (enc : α → Value) (h1 : OneCell enc) (blk off cap : Nat) (d : Array α) (w : World) (hH : Holds enc w blk off d) (hsz : d.size ≤ 9223372036854775807) :
    Calls Tryz.prog 44 #[.slice (some ⟨blk, off, none⟩) d.size cap] w fun e w' => e = .returned (.tuple #[]) ∧ ∃ n, w' = putRow enc (Sort.ahead w n) blk off d.reverse := AnyE.slices_Reverse_arr Tryz.laysSlE35_f44 enc h1 blk off cap d w hH hsz
open Go.RowKit Go.Lib Go.Sort in
/-- slices.Reverse: "Reverse reverses the elements of the slice in place.": THE SLICE's CELLS HOLD 'zs.reverse' BEHIND THE CALL; all else is as it was, but for the count of draws (the exchange 's[i], s[j] = s[j], s[i]' draws its order, once a round). IN THE WORDS OF slices.Sort's CONTRACT: 'Holds': the cells hold zs and none is frozen; 'putRow': the world with those cells holding another array. A slice of length 0 that is not nil is among them ('zs = []'); nil: '.._nil'. (LAID AT THE INSTANCE 'slices.Reverse[[]int,int]': no walk: one application.) -/
theorem Tryz.slices_Reverse {α : Type} [Inhabited α] (enc : α → Value) (h1 : OneCell enc) (blk off cap : Nat) (zs : List α) (w : World) (hH : Holds enc w blk off zs.toArray) (hsz : zs.length ≤ 9223372036854775807) :
    Calls Tryz.prog 44 #[.slice (some ⟨blk, off, none⟩) zs.length cap] w fun e w' => e = .returned (.tuple #[]) ∧ ∃ n, w' = putRow enc (Sort.ahead w n) blk off zs.reverse.toArray := AnyE.slices_Reverse Tryz.laysSlE35_f44 enc h1 blk off cap zs w hH hsz
open Go.RowKit Go.Lib Go.Sort in
/-- The same at a slice of length 0, a nil one too: nothing is read, nothing written, nothing drawn. (LAID AT THE INSTANCE 'slices.Reverse[[]int,int]': no walk: one application.) -/
theorem Tryz.slices_Reverse_empty {α : Type} [Inhabited α] (a : Option Addr) (cap : Nat) (w : World) :
    Calls Tryz.prog 44 #[.slice a 0 cap] w fun e w' => e = .returned (.tuple #[]) ∧ w' = w := AnyE.slices_Reverse_empty Tryz.laysSlE35_f44 a cap w
end Go.Proofs

/- Walks: Needless. -/
namespace Go.Proofs.YthcmjhellpjllaaGreat
open Go Go.RowKit Go.Shelf

theorem needless1_any (w : World) (k i : Nat) (gone : List Bool) (n b1 b2 bg : Nat) (hk : k < n) (_hn : n ≤ 4000) (hg : gone.length = n) (c1 : w.cell? ⟨b1, 0, none⟩ = some (.int .i64 (i : Int))) (c2 : w.cell? ⟨b2, 0, none⟩ = some (.slice (some ⟨bg, 0, none⟩) n n)) (h : w.heap[bg]? = some (.cells (boolA gone) 4 (0,0))) :
    Calls Tryz.prog 43 #[.int .i64 (k : Int), .pointer (some ⟨b1, 0, none⟩), .pointer (some ⟨b2, 0, none⟩)] w fun e w' => e = .returned (.bool (needT gone i k)) ∧ w = w' := by
  have c3 : w.cell? ⟨bg, k, none⟩ = some (.bool (gone.getD k false)) := by rw [cell_of_row _ _ _ _ _ _ h, boolA_get (by omega)]
  obtain ⟨v, hv⟩ : ∃ v, gone.getD k false = v := ⟨_, rfl⟩
  rw [hv] at c3
  have k0 : (0 : Int) ≤ (k : Int) := by omega
  have k1 : (k : Int) < (n : Int) := by omega
  by_cases hki : k = i
  · subst hki
    have hr : needT gone k k = false := by unfold needT; simp
    have HR := hidE hr
    clear hr h hv
    go_enter Tryz.func43, Tryz.ntmps43
    go_wp2_with fail
    go_ret
    exact ⟨by rw [HR.out]; rfl, rfl⟩
  · have hr : needT gone i k = !v := by unfold needT; rw [hv]; simp [hki]
    have hne : ((k : Int) != (i : Int)) = true := by simp; omega
    have HR := hidE hr
    clear hr h hv
    go_enter Tryz.func43, Tryz.ntmps43
    go_wp2_with fail
    go_ret
    exact ⟨by rw [HR.out]; rfl, rfl⟩

/-- 'slices.Reverse' on a list that the call owns. -/
theorem reverse_own (w : World) (base : Nat) (v : Value) (l : List Int) (hl : l.length ≤ 9223372036854775807) (h : w.ownsRow base 3 1 v l.length (intsV l)) :
    Calls Tryz.prog 44 #[v] w fun e w' => e = .returned (.tuple #[]) ∧ w'.ownsRow base 3 1 v l.length (intsV l.reverse) ∧ Below base w w' := by
  by_cases hv : v = .slice none 0 0
  · subst hv
    have h0 : l = [] := by
      rcases h.2 with ⟨_, e⟩ | ⟨g, cp, cu, e, _⟩
      · exact List.length_eq_zero_iff.1 e
      · cases e
    subst h0
    exact (Tryz.slices_Reverse_int_empty none 0 w).mono fun e w' ⟨h1, h2⟩ => ⟨h1, by rw [h2]; exact World.ownsRow_nil _ _ _ _, by rw [h2]; exact Below.refl _ _⟩
  · obtain ⟨g, cap, rfl, hb, hg, hc, _, _, hH⟩ := Lib.holds_of_ownsRow (enc := Value.int .i64) (zs := l) h hv
    refine (Tryz.slices_Reverse_int g 0 cap l w hH hl).mono fun e w' ⟨h1, n, h2⟩ => ⟨h1, ?_, ?_⟩
    · rw [h2]
      have := Lib.ownsRow_putRow (enc := Value.int .i64) (zs := l) (q := n) (k := l.length) (ys := l.reverse) h (by simp) (Nat.le_refl _)
      rwa [List.take_of_length_le (by simp)] at this
    · rw [h2]; exact Lib.below_putRow (Below.refl _ _) hb

end Go.Proofs.YthcmjhellpjllaaGreat

/- Walks: Needless, whole. -/
namespace Go.Proofs.YthcmjhellpjllaaGreat
open Go Go.RowKit Go.Shelf

/-- What stands between two rounds of Needless. -/
structure NSt (w1 W : World) (gB L b8 : Nat) (n : Nat) (v : Value) (gone : List Bool) (out : List Int) : Prop where
  i : W.heap[b8]? = some (.cells #[.int .i64 ((n : Int) - 1)] 3 (0,0))
  g : W.heap[gB]? = some (.cells (boolA gone) 4 (0,0))
  s : W.heap[gB + 1]? = some (.cells #[.slice (some ⟨gB, 0, none⟩) L L] 80 (0,0))
  own : W.ownsRow (gB + 2) 3 1 v out.length (intsV out)
  ne : v.ownBlock ≠ some b8
  b8 : gB + 2 ≤ b8
  bl : Below gB w1 W
  gl : gone.length = L

theorem owns_lt {W : World} {base : Nat} {e : TypeId} {size : Nat} {v : Value} {n : Nat} {xs : List Value} (h : W.ownsRow base e size v n xs) {g : Nat} (hg : v.ownBlock = some g) : g < W.heap.size ∧ base ≤ g ∧ ∃ c f, W.heap[g]? = some (.cells c e f) := by
  rcases h.2 with ⟨e1, _⟩ | ⟨g1, cp', cu, e1, hb, hh, _⟩
  · rw [e1] at hg; simp [Value.ownBlock] at hg
  · rw [e1] at hg
    simp only [Value.ownBlock, Option.some.injEq] at hg
    subst hg
    exact ⟨lt_of_block hh, hb, _, _, hh⟩

theorem nst_mk {w1 Z : World} {gB L n : Nat} {v : Value} {gone : List Bool} {out : List Int} (g : Z.heap[gB]? = some (.cells (boolA gone) 4 (0,0))) (s : Z.heap[gB + 1]? = some (.cells #[.slice (some ⟨gB, 0, none⟩) L L] 80 (0,0))) (own : Z.ownsRow (gB + 2) 3 1 v out.length (intsV out)) (bl : Below gB w1 Z) (gl : gone.length = L) (hz : gB + 2 ≤ Z.heap.size) :
    NSt w1 (Z.alloc (.cells #[.int .i64 ((n : Int) - 1)] 3)) gB L Z.heap.size n v gone out :=
  ⟨heap_alloc_new _ _, (Below.heap_alloc _ _ _ (lt_of_block g)).trans g, (Below.heap_alloc _ _ _ (lt_of_block s)).trans s, own.alloc _, fun e => by have := (owns_lt own e).1; omega, hz, bl.alloc (by omega) _, gl⟩

set_option maxRecDepth 100000 in
set_option maxHeartbeats 4000000 in
theorem needless_any (w : World) (N : Int) (a : Option Addr) (cap : Nat) (bs : List Bd) (hN : i64ok N) (hl : bs.length ≤ 9223372036854775807) (h : BoundsAt w a bs) :
    Calls Tryz.prog 16 #[.agg #[.int .i64 N, .slice a bs.length cap]] w fun e w' => PathPost (needlessE N bs).1 (needlessE N bs).2 w.heap.size e w' ∧ Below w.heap.size w w' := by
  have H := hidE h
  have HN := hidE hN
  have i94 : Hid ((Tryz.prog.info? 56).map (·.size) = some 128) := hidE (by kernel_rfl)
  clear h hN
  have hB0 : Below w.heap.size w (w.alloc (.cells #[.int .i64 N, .slice a bs.length cap] 24)) := (Below.refl _ _).alloc (Nat.le_refl _) _
  have hask : Calls Tryz.prog 21 #[.agg #[.int .i64 N, .slice a bs.length cap], .slice none 0 0] (w.alloc (.cells #[.int .i64 N, .slice a bs.length cap] 24)) _ :=
    asked_any _ N a cap bs none 0 [] HN.out hl (by simp) (H.out.alloc (.cells #[.int .i64 N, .slice a bs.length cap] 24)) (.inl rfl)
  by_cases he : askedE N bs [] = 0
  · obtain ⟨R, t, rfl, ht, HO⟩ := asked0 he
    have hd : needlessE R bs = (needlessP R t bs, 0) := by unfold needlessE; rw [if_pos he, heightsP_of ht]; simp
    obtain ⟨F, hF⟩ : ∃ F, needGo R t bs bs.length (List.replicate bs.length false) [] = F := ⟨_, rfl⟩
    have hv : needlessP R t bs = F.reverse := by unfold needlessP; rw [hF]
    have hFl : F.length ≤ bs.length := by rw [← hF]; simpa using needGo_len R t bs bs.length (List.replicate bs.length false) []
    have hlen := HO.len
    have hn1 := HO.n1
    have hmk4 := fun W => run_make_row' (P := Tryz.prog) 80 4 (.bool false) 1 Tryz.underlying80 Tryz.info4' rfl .i64 .i64 bs.length (by omega) (by omega) W
    have HD := hidE hd
    have HV := hidE hv
    have HE := hidE he
    have HT := hidE ht
    have HA := hidE hask
    have HF := hidE hF
    clear hd hv he ht hask hF
    go_enter Tryz.func16, Tryz.ntmps16
    go_wp2_with fail
    refine HA.out.mono ?_
    rintro e w1 ⟨hp, hb1⟩
    unfold AskedPost at hp
    rw [if_pos HE.out] at hp
    obtain ⟨bn, t', ht', rfl, hbn, hcell⟩ := hp
    have htt : t' = t := by have := HT.out; rw [ht'] at this; exact Option.some.inj this
    subst htt
    have B1 := hB0.trans (hb1.mono hB0.size)
    have hbx := blk_below hb1 (by simp) (heap_alloc_new w (.cells #[.int .i64 (R : Int), .slice a bs.length cap] 24))
    have e1 : w1.cell? ⟨w.heap.size, 1, none⟩ = some (.slice a bs.length cap) := by rw [cell_of_row _ _ _ _ _ _ hbx]; rfl
    have lbx := lt_of_block hbx
    have lbx1 : w.heap.size < w1.heap.size + 1 := by omega
    have lbx2 : w.heap.size < w1.heap.size + 1 + 1 := by omega
    have lbn := lt_of_block hcell
    have HBX := hidE hbx
    have HCL := hidE hcell
    have HB1 := hidE B1
    clear hbx hcell ht' hb1 B1 hbn
    go_wp2_with fail
    obtain ⟨W0, hW0⟩ : ∃ W0, W0 = ((w1.alloc (.cells (madeCells #[.bool false] bs.length) 4)).alloc (.cells #[.slice (some ⟨w1.heap.size, 0, none⟩) bs.length bs.length] 80)).alloc (.cells #[.int .i64 ((bs.length : Int) - 1)] 3) := ⟨_, rfl⟩
    rw [← hW0]
    have st0 : NSt w1 W0 w1.heap.size bs.length (w1.heap.size + 1 + 1) bs.length (.slice none 0 0) (List.replicate bs.length false) [] := by
      refine ⟨?_, ?_, ?_, World.ownsRow_nil _ _ _ _, by simp [Value.ownBlock], Nat.le_refl _, ?_, by simp⟩
      · rw [hW0, heap_alloc_at _ _ _ (by simp)]
      · rw [hW0, Below.heap_alloc _ _ _ (by simp; omega), Below.heap_alloc _ _ _ (by simp), heap_alloc_new, madeBools]
      · rw [hW0, Below.heap_alloc _ _ _ (by simp), heap_alloc_at _ _ _ (by simp)]
      · rw [hW0]; exact (((Below.refl _ _).alloc (Nat.le_refl _) _).alloc (by simp) _).alloc (by simp; omega) _
    have ST0 := hidE st0
    clear st0 hW0 hmk4 e1
    go_loopg [7, 8] bs.length (fun n v p8 wr => ∃ (b8 : Nat) (gone : List Bool) (out : List Int), p8 = .pointer (some ⟨b8, 0, none⟩) ∧ n ≤ bs.length ∧ out.length + n ≤ bs.length ∧ Hid (needGo R t' bs n gone out = F) ∧ Hid (NSt w1 wr w1.heap.size bs.length b8 n v gone out))
    case atStart => exact ⟨_, _, _, rfl, Nat.le_refl _, by simp, HF, ST0⟩
    case round =>
      obtain ⟨b8, gone, out, rfl, hnl, hol, hgo, hst⟩ := hrel
      obtain ⟨k1, k2, k3, k4, k5, k6, k7, k8⟩ := hst.out
      have kbx := (k7.block w.heap.size lbx).trans HBX.out
      have l8 := lt_of_block k1
      cases gk with
      | zero =>
        have c8 : wr.cell? ⟨b8, 0, none⟩ = some (.int .i64 (-1)) := cell_of_one k1
        have hF2 : F = out := hgo.out.symm
        have k4' := hidE k4
        have k7' := hidE k7
        clear k1 k2 k3 k4 k5 k7 k8 kbx
        go_wp2_with fail
        refine (reverse_own wr (w1.heap.size + 2) u7 out (by omega) k4'.out).mono ?_
        rintro e w9 ⟨rfl, hown, hbl⟩
        have HOW := hidE hown
        have HBL := hidE hbl
        clear hown hbl
        go_wp2_with fail
        go_ret2
        have b9 := (HB1.out.trans (k7'.out.mono HB1.out.size)).trans (HBL.out.mono (by have := HB1.out.size; omega))
        refine ⟨?_, b9⟩
        rw [HD.out, HV.out, hF2]
        refine ⟨_, rfl, ?_⟩
        rw [List.length_reverse]
        exact ownsRow_base HOW.out (by have := HB1.out.size; omega)
      | succ i =>
        have c8 : wr.cell? ⟨b8, 0, none⟩ = some (.int .i64 (i : Int)) := by rw [cell_of_one k1, show ((i + 1 : Nat) : Int) - 1 = (i : Int) from by omega]
        have i0 : (0 : Int) ≤ (i : Int) := by omega
        have ilt : i < bs.length := by omega
        have ilt' : (i : Int) < (bs.length : Int) := by omega
        obtain ⟨b, off, rfl, hbl, hcs⟩ := H.out.at ilt
        have hbw : b < w1.heap.size := Nat.lt_of_lt_of_le hbl HB1.out.size
        have hval := HO.valid bs[i] (List.getElem_mem _)
        have hcs' := (hcs.below HB1.out hbl).below k7 hbw
        obtain ⟨c0, c1, c2, c3⟩ := hcs'
        have hgd : bs.getD i bd0 = bs[i] := getD_get bs bd0 ilt
        obtain ⟨y, hy⟩ : ∃ y, bs[i] = y := ⟨_, rfl⟩
        rw [hy] at c0 c1 c2 c3 hval hgd
        obtain ⟨ys, yd, ym, yr⟩ := y
        obtain ⟨v1, v2, v3, v4, v5, v6⟩ := hval
        simp only at c0 c1 c2 c3 v1 v2 v3 v4 v5 v6
        obtain ⟨si, rfl⟩ := Int.eq_ofNat_of_zero_le v1
        obtain ⟨di, rfl⟩ := Int.eq_ofNat_of_zero_le v3
        have d128 : (di : Int) < 128 := by omega
        have d0 : (0 : Int) ≤ (di : Int) := by omega
        have cb1 : wr.cell? ⟨w.heap.size, 1, none⟩ = some (.slice (some ⟨b, off, none⟩) bs.length cap) := by rw [cell_of_row _ _ _ _ _ _ kbx]; rfl
        have BX := Below.heap_alloc wr (.cells #[.int .i64 (si : Int), .int .i64 (di : Int), .int .i64 ym, .int .i64 yr] 47)
        have ba : Below wr.heap.size wr (wr.alloc (.cells #[.int .i64 (si : Int), .int .i64 (di : Int), .int .i64 ym, .int .i64 yr] 47)) := (Below.refl _ _).alloc (Nat.le_refl _) _
        have bw : Below w.heap.size w wr := HB1.out.trans (k7.mono HB1.out.size)
        have lg := lt_of_block k2
        have ls := lt_of_block k3
        have hdist := distances_any (wr.alloc (.cells #[.int .i64 (si : Int), .int .i64 (di : Int), .int .i64 ym, .int .i64 yr] 47)) bn R (some ⟨b, off, none⟩) cap bs t' si 43 #[.pointer (some ⟨b8, 0, none⟩), .pointer (some ⟨w1.heap.size + 1, 0, none⟩)] (needT gone i) HO.n0 HO.n1 (by omega)
          ((H.out.below bw (Nat.le_refl _)).alloc _) HO.valid ((BX bn (by have := k7.size; omega)).trans ((k7.block bn lbn).trans HCL.out)) HO.hl HO.low HO.pot (by omega)
          (fun q hq W hk => (needless1_any W q i gone bs.length b8 (w1.heap.size + 1) w1.heap.size hq (by omega) k8 ((hk.cell (by show b8 < _; simp; omega)).trans ((World.cell?_of_block (w := wr) (BX b8 l8)).trans c8)) ((hk.cell (by show w1.heap.size + 1 < _; simp; omega)).trans (cell_of_one ((BX _ ls).trans k3))) ((hk.same w1.heap.size (by show w1.heap.size < _; simp; omega)).trans ((BX _ lg).trans k2))).mono fun _ _ ⟨he, hw⟩ => ⟨he, hw ▸ Below.refl _ _⟩)
          (enters_of Tryz.func43 (by kernel_rfl) rfl)
        obtain ⟨r, hr⟩ : ∃ r, distP R t' (selB bs (passes (needT gone i) bs.length)) si = r := ⟨_, rfl⟩
        have hsel : ∀ x ∈ selB bs (passes (needT gone i) bs.length), x ∈ bs := fun x hx => mem_selB (fun q hq => (passes_mem.1 hq).1) hx
        have hrl : r.length = 128 := by rw [← hr]; exact (distP_row hn1 (by omega) (fun x hx => HO.valid x (hsel x hx)) (HO.pot.mono hsel) HO.low).1
        rw [hr] at hdist
        obtain ⟨vd, hvd⟩ : ∃ v, r.getD di 0 = v := ⟨_, rfl⟩
        have hyes : needYes R t' bs gone i = decide (vd ≤ ym) := by
          unfold needYes
          simp only [hgd, Int.toNat_natCast]
          rw [hr, hvd]
        have HC := hidE hdist
        have HYES := hidE hyes
        have HVD := hidE hvd
        have HRL := hidE hrl
        have HST := hidE hst.out
        have KBX := hidE kbx
        clear hdist hyes hr hsel k1 k2 k3 k4 k5 k7 k8 kbx hvd hrl hcs hgd hy BX
        go_wp2_with fail
        refine HC.out.mono ?_
        rintro e w2 ⟨rfl, hb2⟩
        have hst' : (w2.alloc (.cells Tryz.zeroCells56 56)).heap[w2.heap.size]? = some (.cells (rowA (rep128 0)) 56 (0,0)) := by rw [zc94]; exact heap_alloc_new _ _
        have HSR := hidE hst'
        have hw2 : ∀ q, q < wr.heap.size → w2.heap[q]? = wr.heap[q]? := fun q hq => (hb2.block q (by simp; omega)).trans (Below.heap_alloc _ _ _ hq)
        have hx44 := blk_below hb2 (by simp) (heap_alloc_new wr (.cells #[.int .i64 (si : Int), .int .i64 (di : Int), .int .i64 ym, .int .i64 yr] 47))
        have s2 := hb2.size
        simp only [World.size_alloc] at s2
        have bl2 : Below w1.heap.size w1 w2 := (HST.out.bl.trans (ba.mono HST.out.bl.size)).trans (hb2.mono (by have := HST.out.bl.size; simp; omega))
        have HW2 := hidE hw2
        have HX44 := hidE hx44
        have HBL2 := hidE bl2
        clear hst' hb2 hw2 hx44 ba bl2 c0 c1 c2 c3 cb1 c8
        have hs1 : Hid ((rowA (rep128 0)).size = (rowA r).size) := hidE (by rw [rowA_size, rowA_size, HRL.out, rep128_length])
        have hs2 : Hid ((Tryz.prog.info? 56).map (·.size) = some (rowA r).size) := hidE (by rw [rowA_size, HRL.out]; exact i94.out)
        go_wp2_with (refine wpList_store_row rfl 56 _ _ rfl _ _ rfl rfl 56 _ HSR.out hs2.out hs1.out (intsV_one _) ?_; rw [World.setRow_alloc_new])
        obtain ⟨X, hX⟩ : ∃ X, X = w2.alloc (.cells (rowA r) 56) := ⟨_, rfl⟩
        rw [← hX]
        have x44 : X.heap[wr.heap.size]? = some (.cells #[.int .i64 (si : Int), .int .i64 (di : Int), .int .i64 ym, .int .i64 yr] 47 (0,0)) := by rw [hX]; exact (Below.heap_alloc _ _ _ (lt_of_block HX44.out)).trans HX44.out
        have xr : X.heap[w2.heap.size]? = some (.cells (rowA r) 56 (0,0)) := by rw [hX]; exact heap_alloc_new _ _
        have xo : ∀ q, q < wr.heap.size → X.heap[q]? = wr.heap[q]? := fun q hq => by rw [hX]; exact (Below.heap_alloc _ _ _ (by omega)).trans (HW2.out q hq)
        have xs : X.heap.size = w2.heap.size + 1 := by rw [hX]; simp
        have z1 : X.cell? ⟨wr.heap.size, 1, none⟩ = some (.int .i64 (di : Int)) := by rw [cell_of_row _ _ _ _ _ _ x44]; rfl
        have z2 : X.cell? ⟨wr.heap.size, 2, none⟩ = some (.int .i64 ym) := by rw [cell_of_row _ _ _ _ _ _ x44]; rfl
        have z3 : X.cell? ⟨w2.heap.size, di, none⟩ = some (.int .i64 vd) := by rw [cell_of_row _ _ _ _ _ _ xr, rowA_get (by rw [HRL.out]; omega), HVD.out]
        have BLX : Below w1.heap.size w1 X := by rw [hX]; exact HBL2.out.alloc HBL2.out.size _
        have HXO := hidE xo
        have HBLX := hidE BLX
        clear hX x44 xr xo BLX
        by_cases hle : vd ≤ ym
        · have hgo2 : needGo R t' bs i (gone.set i true) (out ++ [(i : Int)]) = F := by rw [← hgo.out, needGo, HYES.out, if_pos (by simpa using hle)]
          have HGO := hidE hgo2
          clear hgo2
          go_quiet (fail)
          obtain ⟨Y, hY⟩ : ∃ Y, Y = X.drewN nq := ⟨_, rfl⟩
          rw [← hY]
          have yo : ∀ q, q < wr.heap.size → Y.heap[q]? = wr.heap[q]? := fun q hq => by rw [hY]; exact HXO.out q hq
          have ys : Y.heap.size = X.heap.size := by rw [hY]; rfl
          have yb : Below w1.heap.size w1 Y := by rw [hY]; exact HBLX.out.trans (below_drewN' _ _)
          have y8 : Y.cell? ⟨b8, 0, none⟩ = some (.int .i64 (i : Int)) := by rw [cell_of_one ((yo b8 l8).trans HST.out.i), show ((i + 1 : Nat) : Int) - 1 = (i : Int) from by omega]
          have yg := (yo _ lg).trans HST.out.g
          have ysl := (yo _ ls).trans HST.out.s
          have ow : Y.ownsRow (w1.heap.size + 2) 3 1 u7 out.length (intsV out) := ownsRow_of_block HST.out.own (fun q e => yo q (owns_lt HST.out.own e).1)
          have hgl := HST.out.gl
          have y6 : Y.cell? ⟨w1.heap.size + 1, 0, none⟩ = some (.slice (some ⟨w1.heap.size, 0, none⟩) bs.length bs.length) := cell_of_one ysl
          obtain ⟨og, hog⟩ : ∃ x, gone.getD i false = x := ⟨_, rfl⟩
          have ygc : Y.cell? ⟨w1.heap.size, i, none⟩ = some (.bool og) := by rw [cell_of_row _ _ _ _ _ _ yg, boolA_get (by omega), hog]
          have ygf : Y.frozen? ⟨w1.heap.size, i, none⟩ = false := frozen_of_row _ _ _ _ _ yg
          have hne8 : ¬ b8 = w1.heap.size := by have := HST.out.b8; omega
          have hne9 : ¬ w1.heap.size + 1 = w1.heap.size := by omega
          -- behind the store
          obtain ⟨Z, hZ⟩ : ∃ Z, Z = Y.setCell ⟨w1.heap.size, i, none⟩ (.bool true) := ⟨_, rfl⟩
          have zo : ∀ q, q ≠ w1.heap.size → Z.heap[q]? = Y.heap[q]? := fun q hq => by rw [hZ]; exact heap_setCell_other _ _ _ _ hq
          have zg : Z.heap[w1.heap.size]? = some (.cells (boolA (gone.set i true)) 4 (0,0)) := by rw [hZ]; exact (heap_setCell_same _ _ _ _ _ _ yg).trans (by rw [boolA_set])
          have zs : Z.heap.size = Y.heap.size := by rw [hZ]; simp
          have zb : Below w1.heap.size w1 Z := by rw [hZ]; exact yb.setCell (by simp) _
          have zow : Z.ownsRow (w1.heap.size + 2) 3 1 u7 out.length (intsV out) := ownsRow_of_block ow (fun q e => zo q (by have := (owns_lt ow e).2.1; omega))
          have z8 : Z.cell? ⟨b8, 0, none⟩ = some (.int .i64 (i : Int)) := (World.cell?_of_block (w := Y) (zo b8 hne8)).trans y8
          have zsl := (zo _ hne9).trans ysl
          obtain ⟨i0', hi, hz0, hz1, hz2⟩ := info_parts info3
          obtain ⟨v', wa, hrun, hown', hgrow, hnil, hblk⟩ := run_append_own_at (P := Tryz.prog) (Z.alloc (Obj.cells #[.int .i64 (i : Int)] 3)) (w1.heap.size + 2) 35 35 3 i0' _ 1 8 Tryz.underlying35 hi hz0 hz1 hz2 rfl (by decide) u7 _ _
            (zow.alloc _) ⟨Z.heap.size, 0, none⟩ 1 1 [.int .i64 (i : Int)] rfl (cell_one_new _ _ _) (by intro u hu; simp at hu; subst hu; rfl) (by unfold maxLen; omega) (by omega) (by have := lt_of_block zsl; simp; omega)
          have keep : ∀ q, q < Z.heap.size → u7.ownBlock ≠ some q → wa.heap[q]? = Z.heap[q]? := fun q hq hne => (hgrow.block q (by simp; omega) (fun e => hne e.symm)).trans (Below.heap_alloc Z _ q hq)
          have un : ∀ q, q < w1.heap.size + 2 → u7.ownBlock ≠ some q := fun q hq e => by have := (owns_lt zow e).2.1; omega
          have z8' := (zo b8 hne8).trans ((yo b8 l8).trans HST.out.i)
          have a8 : wa.cell? ⟨b8, 0, none⟩ = some (.int .i64 (i : Int)) := by rw [cell_of_one ((keep b8 (lt_of_block z8') HST.out.ne).trans z8'), show ((i + 1 : Nat) : Int) - 1 = (i : Int) from by omega]
          have ag := (keep _ (lt_of_block zg) (un _ (by omega))).trans zg
          have asl := (keep _ (lt_of_block zsl) (un _ (by omega))).trans zsl
          have ab : Below w1.heap.size w1 wa := (zb.alloc zb.size _).grown hgrow (by have := zb.size; simp; omega) (fun q e => by have := (owns_lt zow e).2.1; omega)
          have HRUN := hidE hrun
          have HZ := hidE hZ
          have HNS := hidE (nst_mk (n := i) ag asl (by rw [List.length_append]; simpa [intsV] using hown') ab (by rw [List.length_set]; exact hgl) (by have := lt_of_block asl; omega) : NSt w1 (wa.alloc (.cells #[.int .i64 ((i : Int) - 1)] 3)) w1.heap.size bs.length wa.heap.size i v' (gone.set i true) (out ++ [(i : Int)]))
          clear ys xs z1 z2 z3 hrun hZ zo zg zs zb zow zsl hown' hgrow hnil hblk keep un z8' ag asl ab yo yb ow yg ysl hY
          go_upto_region 13 with fail
          rw [← HZ.out]
          clear y8 y6 ygc ygf
          go_wp2_with (at_builtin; refine wpList_op_append rfl (s := .tmp 51) (x := .tmp 53) (t := 35) rfl rfl rfl HRUN.out ?_)
          go_roundg i
          case measure => omega
          case rel => exact ⟨_, _, _, rfl, by omega, by simp; omega, HGO, HNS⟩
        · have hgo2 : needGo R t' bs i gone out = F := by rw [← hgo.out, needGo, HYES.out, if_neg (by simpa using hle)]
          have HGO := hidE hgo2
          clear hgo2
          go_quiet (fail)
          obtain ⟨Y, hY⟩ : ∃ Y, Y = X.drewN nq := ⟨_, rfl⟩
          rw [← hY]
          have yo : ∀ q, q < wr.heap.size → Y.heap[q]? = wr.heap[q]? := fun q hq => by rw [hY]; exact HXO.out q hq
          have ys : Y.heap.size = X.heap.size := by rw [hY]; rfl
          have yb : Below w1.heap.size w1 Y := by rw [hY]; exact HBLX.out.trans (below_drewN' _ _)
          have y8 : Y.cell? ⟨b8, 0, none⟩ = some (.int .i64 (i : Int)) := by rw [cell_of_one ((yo b8 l8).trans HST.out.i), show ((i + 1 : Nat) : Int) - 1 = (i : Int) from by omega]
          have yg := (yo _ lg).trans HST.out.g
          have ysl := (yo _ ls).trans HST.out.s
          have ow : Y.ownsRow (w1.heap.size + 2) 3 1 u7 out.length (intsV out) := ownsRow_of_block HST.out.own (fun q e => yo q (owns_lt HST.out.own e).1)
          have hgl := HST.out.gl
          have HNS := hidE (nst_mk (n := i) yg ysl ow yb hgl (by have := lt_of_block ysl; omega) : NSt w1 (Y.alloc (.cells #[.int .i64 ((i : Int) - 1)] 3)) w1.heap.size bs.length Y.heap.size i u7 gone out)
          clear yo yb ow yg ysl hY ys xs z1 z2 z3
          go_wp2_with fail
          go_roundg i
          case measure => omega
          case rel => exact ⟨_, _, _, rfl, by omega, by omega, HGO, HNS⟩
  · have hd : needlessE N bs = ([], askedE N bs []) := by unfold needlessE; rw [if_neg he]
    have HD := hidE hd
    have HE := hidE he
    obtain ⟨c, hc⟩ : ∃ c, askedE N bs [] = c := ⟨_, rfl⟩
    have hc1 : (c == 0) = false := by rw [← hc]; simpa using he
    have hc2 : (c != 0) = true := by rw [← hc]; simpa using he
    have HC := hidE hc
    have HA := hidE hask
    clear hd he hc hask
    go_enter Tryz.func16, Tryz.ntmps16
    go_wp2_with fail
    refine HA.out.mono ?_
    rintro e w1 ⟨hp, hb1⟩
    unfold AskedPost at hp
    rw [if_neg HE.out, HC.out] at hp
    subst hp
    go_wp2_with fail
    go_ret2
    refine ⟨?_, hB0.trans (hb1.mono hB0.size)⟩
    rw [HD.out, HC.out]
    exact ⟨_, rfl, World.ownsRow_nil _ _ _ _⟩

end Go.Proofs.YthcmjhellpjllaaGreat

/- Walks: Consistent; slices.Clone at []Bound. -/
namespace Go.Proofs.YthcmjhellpjllaaGreat
open Go Go.RowKit Go.Shelf

def consistentE (N : Int) (bs : List Bd) : Bool × Int := if checkP N bs = 0 then ((openedP N bs).isSome, 0) else (false, checkP N bs)

set_option maxHeartbeats 400000 in
theorem consistent_any (w : World) (N : Int) (a : Option Addr) (cap : Nat) (bs : List Bd) (hN : i64ok N) (hl : bs.length ≤ 9223372036854775807) (h : BoundsAt w a bs) :
    Calls Tryz.prog 45 #[.agg #[.int .i64 N, .slice a bs.length cap]] w fun e w' => e = .returned (.tuple #[.bool (consistentE N bs).1, .int .i64 (consistentE N bs).2]) ∧ Below w.heap.size w w' := by
  have H := hidE h
  have HN := hidE hN
  clear h hN
  have hB0 : Below w.heap.size w (w.alloc (.cells #[.int .i64 N, .slice a bs.length cap] 24)) := (Below.refl _ _).alloc (Nat.le_refl _) _
  have hck := check_any (w.alloc (.cells #[.int .i64 N, .slice a bs.length cap] 24)) N a cap bs HN.out hl (H.out.alloc _)
  by_cases hc : checkP N bs = 0
  · obtain ⟨n0, n1, n2, nv⟩ := checkP_zero hc
    obtain ⟨o, ho⟩ : ∃ o, openedP N bs = o := ⟨_, rfl⟩
    have hd : consistentE N bs = (o.isSome, 0) := by unfold consistentE; rw [if_pos hc, ho]
    rw [hc] at hck
    have HC := hidE hck
    have HD := hidE hd
    have HO := hidE ho
    have NV := hidE nv
    clear hc hck hd ho nv
    go_enter Tryz.func45, Tryz.ntmps45
    go_wp2_with fail
    refine HC.out.mono ?_
    rintro e w1 ⟨rfl, hb1⟩
    have hbx := blk_below hb1 (by simp) (heap_alloc_new w (.cells #[.int .i64 N, .slice a bs.length cap] 24))
    have c0 : w1.cell? ⟨w.heap.size, 0, none⟩ = some (.int .i64 N) := by rw [cell_of_row _ _ _ _ _ _ hbx]; rfl
    have c1 : w1.cell? ⟨w.heap.size, 1, none⟩ = some (.slice a bs.length cap) := by rw [cell_of_row _ _ _ _ _ _ hbx]; rfl
    have B1 := hB0.trans (hb1.mono hB0.size)
    have hop := opened_any w1 N a cap bs n0 n1 (by omega) (H.out.below B1 (Nat.le_refl _)) (fun b hb => (NV.out b hb).1)
    rw [HO.out] at hop
    have HOP := hidE hop
    have HB1 := hidE B1
    clear hbx hb1 B1 hop
    go_wp2_with fail
    refine HOP.out.mono ?_
    rintro e w2 ⟨hp, hb2⟩
    have HB2 := hidE (HB1.out.trans (hb2.mono HB1.out.size))
    clear hb2
    cases o with
    | none =>
      simp only [OpenedPost] at hp
      subst hp
      go_wp2_with fail
      go_ret2
      exact ⟨by rw [HD.out]; rfl, HB2.out⟩
    | some t =>
      obtain ⟨b, rfl, _, _⟩ := hp
      go_wp2_with fail
      go_ret2
      exact ⟨by rw [HD.out]; rfl, HB2.out⟩
  · have hd : consistentE N bs = (false, checkP N bs) := by unfold consistentE; rw [if_neg hc]
    obtain ⟨c, hcc⟩ : ∃ c, checkP N bs = c := ⟨_, rfl⟩
    rw [hcc] at hck hd hc
    have hc1 : (c == 0) = false := by simpa using hc
    have hc2 : (c != 0) = true := by simpa using hc
    have HC := hidE hck
    have HD := hidE hd
    clear hcc hck hd hc
    go_enter Tryz.func45, Tryz.ntmps45
    go_wp2_with fail
    refine HC.out.mono ?_
    rintro e w1 ⟨rfl, hb1⟩
    go_wp2_with fail
    go_ret2
    exact ⟨by rw [HD.out]; rfl, hB0.trans (hb1.mono hB0.size)⟩

/-- A list of bounds that the call owns. -/
def BoundsOut (l : List Bd) (base : Nat) (v : Value) (w' : World) : Prop := w'.ownsRow base 47 4 v l.length (flat l)

theorem flat_one (l : List Bd) : ∀ u ∈ flat l, u.oneCell' = true := by
  intro u hu
  simp only [flat, List.mem_flatMap, Bd.cells, List.mem_cons, List.not_mem_nil, or_false] at hu
  obtain ⟨b, _, h⟩ := hu
  rcases h with rfl | rfl | rfl | rfl <;> rfl

theorem boundsAt_news {w : World} {b off : Nat} {l : List Bd} (h : ∀ i (hi : i < l.length), l[i].cellsAt w b (off + i * 4)) : ∀ j u, (flat l)[j]? = some u → w.cell? ((⟨b, off, none⟩ : Addr).add j) = some u := by
  intro j u hj
  rw [show ((⟨b, off, none⟩ : Addr).add j) = ⟨b, off + j, none⟩ from by unfold Addr.add; split <;> simp_all]
  have hlt : j < l.length * 4 := by
    have := (List.getElem?_eq_some_iff.1 hj).1
    rwa [flat_length] at this
  have hi : j / 4 < l.length := by omega
  have hg := flat_get l (j / 4) hi (j % 4) (by omega)
  rw [show j / 4 * 4 + j % 4 = j by omega, hj] at hg
  obtain ⟨h0, h1, h2, h3⟩ := h (j / 4) hi
  have h4 : j % 4 = 0 ∨ j % 4 = 1 ∨ j % 4 = 2 ∨ j % 4 = 3 := by omega
  rcases h4 with e | e | e | e <;> rw [e] at hg <;> simp only [Bd.cells] at hg <;> simp at hg <;> rw [hg]
  · rw [show off + j = off + j / 4 * 4 by omega]; exact h0
  · rw [show off + j = off + j / 4 * 4 + 1 by omega]; exact h1
  · rw [show off + j = off + j / 4 * 4 + 2 by omega]; exact h2
  · rw [show off + j = off + j / 4 * 4 + 3 by omega]; exact h3

/-- A slice that came in: its address, length and capacity, and what lies there. -/
def SliceOk (a : Option Addr) (n cap : Nat) : Prop := a = none → n = 0 ∧ cap = 0

set_option maxRecDepth 100000 in
set_option maxHeartbeats 400000 in
theorem cloneBounds_any (w : World) (a : Option Addr) (cap : Nat) (bs : List Bd) (hl : bs.length ≤ 4000) (hs : SliceOk a bs.length cap) (h : BoundsAt w a bs) :
    Calls Tryz.prog 53 #[.slice a bs.length cap] w fun e w' => ∃ v, e = .returned v ∧ BoundsOut bs w.heap.size v w' ∧ Below w.heap.size w w' := by
  cases a with
  | none =>
    obtain ⟨h0, h1⟩ := hs rfl
    have hb : bs = [] := List.length_eq_zero_iff.1 h0
    subst hb
    subst h1
    clear h hs h0 hl
    have heq := fun W => Lib.run_eql_slice_nil (P := Tryz.prog) (w := W)
    go_enter Tryz.func53, Tryz.ntmps53
    go_wp2_with fail
    go_ret
    exact ⟨_, rfl, World.ownsRow_nil _ _ _ _, Below.refl _ _⟩
  | some ad =>
    have heq := fun W => Lib.run_eql_slice_nil (P := Tryz.prog) (w := W)
    have hnews : ∀ j u, (flat bs)[j]? = some u → (w.alloc (.cells #[] 47)).cell? (ad.add j) = some u := by
      rcases h.alloc (.cells #[] 47) with e | ⟨b, off, e, _, hc⟩
      · subst e; intro j u hj; simp [flat] at hj
      · cases e; exact boundsAt_news hc
    obtain ⟨i0, hi, hz0, hz1, hz2⟩ := info_parts Tryz.info47
    have hown : (w.alloc (.cells #[] 47)).ownsRow w.heap.size 47 4 (.slice (some ⟨w.heap.size, 0, none⟩) 0 0) 0 [] := ⟨rfl, .inr ⟨w.heap.size, 0, #[], rfl, Nat.le_refl _, heap_alloc_new _ _, Nat.le_refl _, Nat.zero_le _, rfl, rfl⟩⟩
    obtain ⟨v', wa, hrun, hown', hgrow, hnil, hblk⟩ := run_append_own_at (P := Tryz.prog) (w.alloc (.cells #[] 47)) w.heap.size 22 22 47 i0 _ 4 32 Tryz.underlying22 hi hz0 hz1 hz2 rfl (by decide) _ _ _
      hown ad bs.length cap (flat bs) (flat_length bs) hnews (flat_one bs) (by unfold maxLen; omega) (by omega) (by simp)
    have hbl : Below w.heap.size w wa := ((Below.refl w.heap.size w).alloc (Nat.le_refl _) _).grown hgrow (by simp) (fun q e => by simp only [Value.ownBlock, Option.some.injEq] at e; omega)
    have HRUN := hidE hrun
    have HOW := hidE hown'
    have HBL := hidE hbl
    clear hrun hown' hgrow hnil hblk hown hnews h hs hbl
    go_enter Tryz.func53, Tryz.ntmps53
    go_upto_region 3 with fail
    refine wp_region_lit ?_
    go_wp2_with (at_builtin; refine wpList_op_append rfl (s := .tmp 5) (x := .tmp 6) (t := 22) rfl rfl rfl HRUN.out ?_)
    go_ret
    refine ⟨_, rfl, ?_, HBL.out⟩
    have := HOW.out
    rw [Nat.zero_add, List.nil_append] at this
    exact this

end Go.Proofs.YthcmjhellpjllaaGreat

/- Walks: records; slices.Sort and Compact on a list that the call owns. -/
namespace Go.Proofs.YthcmjhellpjllaaGreat
open Go Go.RowKit Go.Shelf

theorem heap_grow (w : World) (os : Array Obj) {k : Nat} (h : k < w.heap.size) : (Sort.grow w os).heap[k]? = w.heap[k]? := by
  show (w.heap ++ os)[k]? = _
  rw [Array.getElem?_append_left h]

theorem below_grow {B : Nat} {w0 w : World} (h : Below B w0 w) (hB : B ≤ w.heap.size) (os : Array Obj) : Below B w0 (Sort.grow w os) :=
  ⟨h.os, h.tape, h.output, by have := h.size; simp; omega, fun k hk => by rw [heap_grow w os (by omega)]; exact h.block k hk⟩

theorem owns_lt' {W : World} {base : Nat} {e : TypeId} {size : Nat} {v : Value} {n : Nat} {xs : List Value} (h : W.ownsRow base e size v n xs) {g : Nat} (hg : v.ownBlock = some g) : g < W.heap.size := by
  rcases h.2 with ⟨e1, _⟩ | ⟨g1, cp', cu, e1, hb, hh, _⟩
  · rw [e1] at hg; simp [Value.ownBlock] at hg
  · rw [e1] at hg
    simp only [Value.ownBlock, Option.some.injEq] at hg
    subst hg
    exact lt_of_block hh

def sortP (l : List Int) : List Int := l.mergeSort fun x y => decide (x ≤ y)
theorem sortP_length (l : List Int) : (sortP l).length = l.length := by simp [sortP]

theorem sort_own (w : World) (base : Nat) (v : Value) (l : List Int) (hl : l.length < 4611686018427387904) (h : w.ownsRow base 3 1 v l.length (intsV l)) (hb0 : base ≤ w.heap.size) :
    Calls Tryz.prog 70 #[v] w fun e w' => e = .returned (.tuple #[]) ∧ w'.ownsRow base 3 1 v l.length (intsV (sortP l)) ∧ Below base w w' := by
  by_cases hv : v = .slice none 0 0
  · subst hv
    have h0 : l = [] := by
      rcases h.2 with ⟨_, e⟩ | ⟨g, cp, cu, e, _⟩
      · exact List.length_eq_zero_iff.1 e
      · cases e
    subst h0
    exact (Tryz.slices_Sort_int_none none 0 w).mono fun e w' ⟨h1, h2⟩ => ⟨h1, by rw [h2, show sortP [] = [] from by simp [sortP]]; exact World.ownsRow_nil _ _ _ _, by rw [h2]; exact Below.refl _ _⟩
  · obtain ⟨g, cap, rfl, hb, hg, hc, _, _, hH⟩ := Lib.holds_of_ownsRow (enc := Value.int .i64) (zs := l) h hv
    refine (Tryz.slices_Sort_int g 0 cap l w hH hg hl).mono fun e w' ⟨h1, n, os, h2⟩ => ⟨h1, ?_, ?_⟩
    · rw [h2]
      have := Lib.ownsRow_putRow (enc := Value.int .i64) (zs := l) (q := n) (k := l.length) (ys := sortP l) h (sortP_length l) (Nat.le_refl _)
      rw [List.take_of_length_le (by rw [sortP_length]; exact Nat.le_refl _)] at this
      exact ownsRow_of_block this (fun q e => heap_grow _ _ (owns_lt' this e))
    · rw [h2]; exact below_grow (Lib.below_putRow (Below.refl _ _) hb) (by simp; omega) os

theorem compact_own (w : World) (base : Nat) (v : Value) (l : List Int) (hl : l.length ≤ 9223372036854775807) (h : w.ownsRow base 3 1 v l.length (intsV l)) :
    Calls Tryz.prog 71 #[v] w fun e w' => ∃ v', e = .returned v' ∧ w'.ownsRow base 3 1 v' (Lib.compact l).length (intsV (Lib.compact l)) ∧ Below base w w' := by
  by_cases hv : v = .slice none 0 0
  · subst hv
    have h0 : l = [] := by
      rcases h.2 with ⟨_, e⟩ | ⟨g, cp, cu, e, _⟩
      · exact List.length_eq_zero_iff.1 e
      · cases e
    subst h0
    exact (Tryz.slices_Compact_int_empty none 0 w).mono fun e w' ⟨h1, h2⟩ => ⟨_, h1, by rw [h2]; exact World.ownsRow_nil _ _ _ _, by rw [h2]; exact Below.refl _ _⟩
  · obtain ⟨g, cap, rfl, hb, hg, hc, _, _, hH⟩ := Lib.holds_of_ownsRow (enc := Value.int .i64) (zs := l) h hv
    refine (Tryz.slices_Compact_int g 0 cap l w hH hl hc).mono fun e w' ⟨h1, n, h2⟩ => ⟨_, h1, ?_, ?_⟩
    · rw [h2]
      have hle : (Lib.compact l).length ≤ l.length := Lib.compact_length_le l
      have := Lib.ownsRow_putRow (enc := Value.int .i64) (zs := l) (q := n) (k := (Lib.compact l).length) (ys := Lib.compact l ++ List.replicate (l.length - (Lib.compact l).length) 0) h (by simp; omega) hle
      rwa [List.take_left' rfl] at this
    · rw [h2]; exact Lib.below_putRow (Below.refl _ _) hb

def rcds (bs : List Bd) : List Int := (bs.filter fun b => decide (0 < b.rcd)).map Bd.rcd
def recordsP (bs : List Bd) : List Int := Lib.compact (sortP (rcds bs))
theorem rcds_snoc (bs : List Bd) (b : Bd) : rcds (bs ++ [b]) = rcds bs ++ (if 0 < b.rcd then [b.rcd] else []) := by
  unfold rcds
  rw [List.filter_append, List.map_append]
  by_cases h : 0 < b.rcd <;> simp [h]
theorem rcds_len (bs : List Bd) : (rcds bs).length ≤ bs.length := by
  unfold rcds; rw [List.length_map]; exact List.length_filter_le _ _

set_option maxRecDepth 100000 in
set_option maxHeartbeats 2000000 in
theorem records_any (w : World) (a : Option Addr) (cap : Nat) (bs : List Bd) (hl : bs.length ≤ 4000) (h : BoundsAt w a bs) :
    Calls Tryz.prog 50 #[.slice a bs.length cap] w fun e w' => ∃ v, e = .returned v ∧ w'.ownsRow w.heap.size 3 1 v (recordsP bs).length (intsV (recordsP bs)) ∧ Below w.heap.size w w' := by
  have H := hidE h
  clear h
  go_enter Tryz.func50, Tryz.ntmps50
  go_wp2_with fail
  go_loopw [3, 8] (fun v i wr => ∃ k : Nat, k ≤ bs.length ∧ i = .int .i64 k ∧ Hid (wr.ownsRow w.heap.size 3 1 v (rcds (bs.take k)).length (intsV (rcds (bs.take k)))) ∧ Below w.heap.size w wr)
    (fun _ i _ => bs.length - (intOf i).toNat)
  case atStart => exact ⟨0, Nat.zero_le _, rfl, hidE (World.ownsRow_nil _ _ _ _), by go_grown⟩
  case round =>
    obtain ⟨k, hk, rfl, hown, hb⟩ := hrel
    by_cases hlt : k < bs.length
    · obtain ⟨b, off, rfl, hbl, hcs⟩ := H.out.at hlt
      obtain ⟨c0, c1, c2, c3⟩ := hcs.below hb hbl
      have htk : rcds (bs.take (k + 1)) = rcds (bs.take k) ++ (if 0 < bs[k].rcd then [bs[k].rcd] else []) := by rw [List.take_succ_eq_append_getElem hlt, rcds_snoc]
      have hrl : (rcds (bs.take k)).length ≤ 4000 := Nat.le_trans (rcds_len _) (by simp; omega)
      obtain ⟨y, hy⟩ : ∃ y, bs[k] = y := ⟨_, rfl⟩
      rw [hy] at c0 c1 c2 c3 htk
      obtain ⟨ys, yd, ym, yr⟩ := y
      simp only at c0 c1 c2 c3 htk
      have HTK := hidE htk
      have HRLe := hidE hrl
      clear hy hcs htk hrl
      by_cases hpos : 0 < yr
      · have own1 := hown.out.alloc (.cells #[.int .i64 ys, .int .i64 yd, .int .i64 ym, .int .i64 yr] 47)
        obtain ⟨i0, hi, hz0, hz1, hz2⟩ := info_parts info3
        obtain ⟨v', wa, hrun, hown', hgrow, hnil, hblk⟩ := run_append_own_at (P := Tryz.prog) ((wr.alloc (.cells #[.int .i64 ys, .int .i64 yd, .int .i64 ym, .int .i64 yr] 47)).alloc (Obj.cells #[.int .i64 yr] 3)) w.heap.size 35 35 3 i0 _ 1 8 Tryz.underlying35 hi hz0 hz1 hz2 rfl (by decide) u3 _ _
          (own1.alloc _) ⟨wr.heap.size + 1, 0, none⟩ 1 1 [.int .i64 yr] rfl (by have := cell_one_new (wr.alloc (.cells #[.int .i64 ys, .int .i64 yd, .int .i64 ym, .int .i64 yr] 47)) (.int .i64 yr) 3; simpa using this) (by intro u hu; simp at hu; subst hu; rfl) (by have := HRLe.out; unfold maxLen; omega) (by have := HRLe.out; omega) (by have := hb.size; simp; omega)
        have hbl2 : Below w.heap.size w wa := ((hb.alloc hb.size _).alloc (by have := hb.size; simp; omega) _).grown hgrow (by have := hb.size; simp; omega) (fun q e => by
          rcases own1.2 with ⟨e1, _⟩ | ⟨g1, cp', cu, e1, hge, hh, _⟩
          · rw [e1] at e; simp [Value.ownBlock] at e
          · rw [e1] at e
            simp only [Value.ownBlock, Option.some.injEq] at e
            omega)
        have HRUN := hidE hrun
        have HOW := hidE hown'
        have HBL := hidE hbl2
        clear hrun hown' hgrow hnil hblk hbl2 own1 hown
        go_wp2_with (at_builtin; refine wpList_op_append rfl (s := .tmp 15) (x := .tmp 18) (t := 35) rfl rfl rfl HRUN.out ?_)
        go_roundw
        case rel => exact ⟨k + 1, by omega, by go_num, hidE (by rw [HTK.out, if_pos hpos, List.length_append]; simpa [intsV] using HOW.out), HBL.out⟩
        case measure => simp [intOf]; omega
      · have own1 := hidE (hown.out.alloc (.cells #[.int .i64 ys, .int .i64 yd, .int .i64 ym, .int .i64 yr] 47))
        go_wp2_with fail
        go_roundw
        case rel => exact ⟨k + 1, by omega, by go_num, hidE (by rw [HTK.out, if_neg hpos, List.append_nil]; exact own1.out), hb.alloc hb.size _⟩
        case measure => simp [intOf]; omega
    · have hall : bs.take k = bs := List.take_of_length_le (by omega)
      rw [hall] at hown
      have hrl := rcds_len bs
      have hsl := sortP_length (rcds bs)
      have hs := sort_own wr w.heap.size u3 (rcds bs) (by omega) hown.out hb.size
      have HS := hidE hs
      clear hs hall
      go_wp2_with fail
      refine HS.out.mono ?_
      rintro e w1 ⟨rfl, ho1, hb1⟩
      rw [← hsl] at ho1
      have hc := compact_own w1 w.heap.size u3 (sortP (rcds bs)) (by omega) ho1
      have HC := hidE hc
      have HB1 := hidE (hb.trans hb1)
      clear hc ho1 hb1 hsl
      go_wp2_with fail
      refine HC.out.mono ?_
      rintro e w2 ⟨v', rfl, ho2, hb2⟩
      have HO2 := hidE ho2
      have HB2 := hidE (HB1.out.trans hb2)
      clear ho2 hb2
      go_wp2_with fail
      go_ret
      exact ⟨_, rfl, HO2.out, HB2.out⟩

end Go.Proofs.YthcmjhellpjllaaGreat

/- Walks: slices.DeleteFunc at []int, on a list that the call owns. -/
namespace Go.Proofs.YthcmjhellpjllaaGreat
open Go Go.RowKit Go.Shelf

/-- What a closure that tests integers owes, where its own memory stands. -/
def TestsIntsK (P : Program) (f : FuncId) (caps : Array Value) (Fix : Nat → Prop) (w : World) (xs : List Int) (p : Int → Bool) : Prop :=
  ∀ k (_ : k < xs.length) (W : World), KeepsB Fix w W → Calls P f (#[.int .i64 xs[k]] ++ caps) W fun e W' => e = .returned (.bool (p xs[k])) ∧ Below W.heap.size W W'

theorem filter_take_succ {p : Int → Bool} {xs : List Int} {j : Nat} (hj : j < xs.length) : (xs.take (j + 1)).filter (fun x => !p x) = (xs.take j).filter (fun x => !p x) ++ (if p xs[j] then [] else [xs[j]]) := by
  rw [List.take_succ_eq_append_getElem hj, List.filter_append]
  cases h : p xs[j] <;> simp [h]

theorem filter_idx {α : Type} {p : α → Bool} : ∀ {l : List α} {k : Nat}, idxOf p l = (k : Int) → k < l.length ∧ (l.take k).any p = false ∧ ∃ h : k < l.length, p l[k] = true
  | [], k, h => by simp [idxOf] at h
  | x :: l, k, h => by
    unfold idxOf at h
    by_cases hx : p x = true
    · rw [if_pos hx] at h
      have : k = 0 := by omega
      subst this
      exact ⟨by simp, by simp, by simp, by simpa using hx⟩
    · rw [if_neg hx] at h
      by_cases hn : idxOf p l < 0
      · rw [if_pos hn] at h; omega
      · rw [if_neg hn] at h
        obtain ⟨m, rfl⟩ : ∃ m, k = m + 1 := ⟨k - 1, by omega⟩
        obtain ⟨h1, h2, h3, h4⟩ := filter_idx (p := p) (l := l) (k := m) (by omega)
        exact ⟨by simp; omega, by rw [List.take_succ_cons, List.any_cons, h2]; simpa using hx, by simp; omega, by simpa using h4⟩

theorem filter_none {p : Int → Bool} {l : List Int} (h : l.any p = false) : l.filter (fun x => !p x) = l := by
  apply List.filter_eq_self.2
  intro x hx
  have := List.any_eq_false.1 h x hx
  simpa using this

/-- A list of integers that stands in a block. -/
theorem owns_block {W : World} {base g n cap : Nat} {xs : List Int} (h : W.ownsRow base 3 1 (.slice (some ⟨g, 0, none⟩) n cap) n (intsV xs)) : ∃ C, W.heap[g]? = some (.cells C 3 (0,0)) ∧ base ≤ g ∧ n ≤ cap ∧ cap ≤ maxLen ∧ C.size = cap ∧ C.toList.take n = intsV xs := by
  rcases h.2 with ⟨e, _⟩ | ⟨g', cp, cu, e, hb, hh, hn, hm, hs, ht⟩
  · cases e
  · cases e; exact ⟨cu, hh, hb, hn, hm, by omega, by simpa using ht⟩

/-- The row while it is written: the first i numbers are those kept of the first j, the others from j on stand. -/
structure DelSt (W : World) (g cap : Nat) (xs : List Int) (p : Int → Bool) (i j : Nat) (C : Array Value) : Prop where
  blk : W.heap[g]? = some (.cells C 3 (0,0))
  size : C.size = cap
  head : C.toList.take i = intsV ((xs.take j).filter fun x => !p x)
  tail : ∀ k (h : k < xs.length), j ≤ k → C[k]? = some (.int .i64 xs[k])
  len : ((xs.take j).filter fun x => !p x).length = i
  ints : ∀ k, k < xs.length → ∃ z : Int, C[k]? = some (.int .i64 z)

theorem DelSt.skip {W W' : World} {g cap : Nat} {xs : List Int} {p : Int → Bool} {i j : Nat} {C : Array Value} (h : DelSt W g cap xs p i j C) (hj : j < xs.length) (hp : p xs[j] = true) (hW : W'.heap[g]? = W.heap[g]?) : DelSt W' g cap xs p i (j + 1) C :=
  ⟨hW.trans h.blk, h.size, by rw [filter_take_succ hj, hp, if_pos rfl, List.append_nil]; exact h.head, fun k hk hjk => h.tail k hk (by omega), by rw [filter_take_succ hj, hp, if_pos rfl, List.append_nil]; exact h.len, h.ints⟩

theorem DelSt.take {W W' : World} {g cap : Nat} {xs : List Int} {p : Int → Bool} {i j : Nat} {C : Array Value} (h : DelSt W g cap xs p i j C) (hj : j < xs.length) (hij : i ≤ j) (hp : p xs[j] = false) (hW : W'.heap[g]? = some (.cells (C.setIfInBounds i (.int .i64 xs[j])) 3 (0,0))) : DelSt W' g cap xs p (i + 1) (j + 1) (C.setIfInBounds i (.int .i64 xs[j])) := by
  have hi : i < C.size := by
    obtain ⟨z, hz⟩ := h.ints i (by omega)
    exact (Array.getElem?_eq_some_iff.1 hz).1
  refine ⟨hW, by rw [Array.size_setIfInBounds]; exact h.size, ?_, fun k hk hjk => ?_, ?_, fun k hk => ?_⟩
  · rw [filter_take_succ hj, hp]
    simp only [Bool.false_eq_true, if_false]
    unfold intsV
    rw [List.map_append]
    have hh := h.head
    unfold intsV at hh
    rw [← hh, Array.toList_setIfInBounds, List.take_succ_eq_append_getElem (by simpa using hi)]
    congr 1
    · rw [List.take_set_of_le (Nat.le_refl _)]
    · simp
  · rw [Array.getElem?_setIfInBounds, if_neg (by omega)]
    exact h.tail k hk (by omega)
  · rw [filter_take_succ hj, hp]
    simp [h.len]
  · rw [Array.getElem?_setIfInBounds]
    split
    · exact ⟨_, rfl⟩
    · exact h.ints k hk

theorem setCells_block {g : Nat} {t : TypeId} : ∀ (vs : List Value) (o : Nat) (W : World) (C : Array Value), W.heap[g]? = some (.cells C t (0,0)) → ∃ C' : Array Value, (W.setCells g o vs).heap[g]? = some (.cells C' t (0,0)) ∧ C'.size = C.size ∧ ∀ k, k < o → C'[k]? = C[k]?
  | [], _, _, C, h => ⟨C, h, rfl, fun _ _ => rfl⟩
  | v :: vs, o, W, C, h => by
    obtain ⟨C', h1, h2, h3⟩ := setCells_block vs (o + 1) (W.setCell ⟨g, o, none⟩ v) (C.setIfInBounds o v) (heap_setCell_same _ _ _ _ _ _ h)
    refine ⟨C', h1, by rw [h2, Array.size_setIfInBounds], fun k hk => ?_⟩
    rw [h3 k (by omega), Array.getElem?_setIfInBounds, if_neg (by omega)]
theorem below_setCells {B : Nat} {w0 W : World} (h : Below B w0 W) {g : Nat} (hg : B ≤ g) : ∀ (o : Nat) (vs : List Value), Below B w0 (W.setCells g o vs)
  | o, vs => by
    induction vs generalizing W o with
    | nil => exact h
    | cons v vs ih => exact ih (h.setCell (by exact hg) v) (o + 1)

set_option maxRecDepth 100000 in
set_option maxHeartbeats 2000000 in
theorem deleteInts_any (w : World) (base : Nat) (v : Value) (xs : List Int) (f : FuncId) (caps : Array Value) (Fix : Nat → Prop) (p : Int → Bool) (hl : xs.length ≤ 100000) (hown : w.ownsRow base 3 1 v xs.length (intsV xs)) (hb0 : base ≤ w.heap.size)
    (hF : ∀ b, Fix b → b < base) (hT : TestsIntsK Tryz.prog f caps Fix w xs p) (eg : Enters Tryz.prog f) :
    Calls Tryz.prog 49 #[v, .func (.func f) #[] caps] w fun e w' => ∃ v', e = .returned v' ∧ w'.ownsRow base 3 1 v' (xs.filter fun x => !p x).length (intsV (xs.filter fun x => !p x)) ∧ Below base w w' := by
  have HT := hidE hT
  have HF := hidE hF
  have EG := hidE eg
  have hTI : ∀ (W : World), Below w.heap.size w W → KeepsB Fix w W := fun W hb => KeepsB.below hb (fun b hb => Nat.lt_of_lt_of_le (hF b hb) hb0)
  clear hT eg hF
  by_cases hv : v = .slice none 0 0
  · subst hv
    have h0 : xs = [] := by
      rcases hown.2 with ⟨_, e⟩ | ⟨g, cp, cu, e, _⟩
      · exact List.length_eq_zero_iff.1 e
      · cases e
    subst h0
    have hidx := indexFuncInts_any w none 0 [] f caps p (by simp) (.inl rfl) (fun k hk => by simp at hk) EG.out
    have HI := hidE hidx
    clear hidx hown hTI hl
    go_enter Tryz.func49, Tryz.ntmps49
    go_wp2_with (go_at_call 69; refine HI.out.mono ?_; rintro e w1 ⟨rfl, hb1⟩)
    go_ret
    exact ⟨_, rfl, World.ownsRow_nil _ _ _ _, hb1.mono hb0⟩
  · obtain ⟨g, cap, hve, hb, hg, hc, hcm, _, hH⟩ := Lib.holds_of_ownsRow (enc := Value.int .i64) (zs := xs) hown hv
    subst hve
    obtain ⟨C, hC, _, _, _, hCs, hCt⟩ := owns_block hown
    have hcells : ∀ k (hk : k < xs.length), C[k]? = some (.int .i64 xs[k]) := by
      intro k hk
      have : (C.toList.take xs.length)[k]? = (intsV xs)[k]? := by rw [hCt]
      rw [List.getElem?_take_of_lt hk] at this
      simpa [intsV, hk] using this
    have hints : IntsAt w (some ⟨g, 0, none⟩) xs := by
      right
      refine ⟨g, 0, rfl, hg, fun i hi => ?_⟩
      rw [cell_of_row _ _ _ _ _ _ hC, Nat.zero_add]; exact hcells i hi
    have hidx := indexFuncInts_any w (some ⟨g, 0, none⟩) cap xs f caps p (by omega) hints (fun k hk W hb => HT.out k hk W (hTI W hb)) EG.out
    by_cases hany : xs.any p = false
    · rw [idxOf_none hany] at hidx
      have HI := hidE hidx
      have HOW := hidE hown
      clear hidx hown hTI hH hCt hcells hints hC
      go_enter Tryz.func49, Tryz.ntmps49
      go_wp2_with (go_at_call 69; refine HI.out.mono ?_; rintro e w1 ⟨rfl, hb1⟩)
      go_ret
      refine ⟨_, rfl, ?_, hb1.mono hb0⟩
      rw [filter_none hany]
      exact ownsRow_of_block HOW.out (fun q e => hb1.block q (owns_lt' HOW.out e))
    · have hnn : ¬ idxOf p xs < 0 := by rw [idxOf_neg]; exact hany
      obtain ⟨m, hm⟩ := Int.eq_ofNat_of_zero_le (Int.not_lt.1 hnn)
      obtain ⟨m1, m2, _, m4⟩ := filter_idx hm
      have hst0 : DelSt w g cap xs p m (m + 1) C := by
        have hf : (xs.take m).filter (fun x => !p x) = xs.take m := filter_none m2
        refine ⟨hC, hCs, ?_, fun k hk _ => hcells k hk, ?_, fun k hk => ⟨_, hcells k hk⟩⟩
        · rw [filter_take_succ m1, m4, if_pos rfl, List.append_nil, hf]
          have : (C.toList.take xs.length).take m = (intsV xs).take m := by rw [hCt]
          rw [List.take_take, Nat.min_eq_left (by omega)] at this
          rw [this]; simp [intsV, List.map_take]
        · rw [filter_take_succ m1, m4, if_pos rfl, List.append_nil, hf, List.length_take]; omega
      rw [hm] at hidx
      have hm0 : ((m : Int) == -1) = false := by simp
      have HI := hidE hidx
      have HST := hidE hst0
      have HTI := hidE hTI
      clear hidx hown hTI hH hCt hcells hints hC hst0 m2 m4 hany hnn hm
      go_enter Tryz.func49, Tryz.ntmps49
      go_wp2_with (go_at_call 69; refine HI.out.mono ?_; rintro e w1 ⟨rfl, hb1⟩)
      have hst1 : DelSt w1 g cap xs p m (m + 1) C := ⟨(hb1.block g hg).trans HST.out.blk, HST.out.size, HST.out.head, HST.out.tail, HST.out.len, HST.out.ints⟩
      have hk1 := HTI.out w1 hb1
      have HST1 := hidE hst1
      have HK1 := hidE hk1
      have HB1 := hidE (hb1.mono hb0)
      clear hst1 hk1 hb1
      go_loopw [5, 6] (fun i j wr => ∃ (ii jj : Nat) (C : Array Value), i = .int .i64 ii ∧ j = .int .i64 jj ∧ ii < jj ∧ jj ≤ xs.length ∧ Hid (DelSt wr g cap xs p ii jj C) ∧ Hid (KeepsB Fix w wr) ∧ Hid (Below base w wr) ∧ w1.heap.size ≤ wr.heap.size)
        (fun _ j _ => xs.length - (intOf j).toNat)
      case atStart => exact ⟨m, m + 1, C, rfl, by go_num, by omega, by omega, HST1, HK1, HB1, Nat.le_refl _⟩
      case round =>
        obtain ⟨ii, jj, D, rfl, rfl, hij, hjn, hst, hkp, hbl, hsz⟩ := hrel
        by_cases hlt : jj < xs.length
        · have cj : wr.cell? ⟨g, jj, none⟩ = some (.int .i64 xs[jj]) := by rw [cell_of_row _ _ _ _ _ _ hst.out.blk]; exact hst.out.tail jj hlt (Nat.le_refl _)
          have hcall := HT.out jj hlt wr hkp.out
          have hgw := lt_of_block hst.out.blk
          obtain ⟨x, hx⟩ : ∃ x, xs[jj] = x := ⟨_, rfl⟩
          rw [hx] at cj hcall
          have HX := hidE hx
          have eg' := EG.out
          unfold Enters at eg'
          clear hx
          cases hq : p x with
          | true =>
            rw [hq] at hcall
            have HC := hidE hcall
            have HQ := hidE hq
            clear hcall hq
            go_wp2_with (go_at_fn f; refine HC.out.mono ?_; rintro e w2 ⟨rfl, hb2⟩)
            go_roundw
            case rel =>
              exact ⟨ii, jj + 1, D, rfl, by go_num, by omega, by omega, hidE (hst.out.skip hlt (by rw [HX.out]; exact HQ.out) (hb2.block g hgw)), hidE (hkp.out.trans (KeepsB.below hb2 (fun b hb => by have := HF.out b hb; have := hkp.out.size; omega))), hidE (hbl.out.trans (hb2.mono (by have := hbl.out.size; omega))), by have := hb2.size; omega⟩
            case measure => simp [intOf]; omega
          | false =>
            rw [hq] at hcall
            have HC := hidE hcall
            have HQ := hidE hq
            clear hcall hq
            go_wp2_with fail
            refine HC.out.mono ?_
            rintro e w2 ⟨rfl, hb2⟩
            have hblk2 := (hb2.block g hgw).trans hst.out.blk
            obtain ⟨z, hz⟩ := hst.out.ints ii (by omega)
            have ci : w2.cell? ⟨g, ii, none⟩ = some (.int .i64 z) := by rw [cell_of_row _ _ _ _ _ _ hblk2]; exact hz
            have fi : w2.frozen? ⟨g, ii, none⟩ = false := frozen_of_row _ _ _ _ _ hblk2
            have hil : ii < xs.length := by omega
            have HB2 := hidE hb2
            have HBK := hidE hblk2
            clear hb2 hblk2 hz
            go_wp2_with fail
            go_roundw
            case rel =>
              refine ⟨ii + 1, jj + 1, D.setIfInBounds ii (.int .i64 xs[jj]), by go_num, by go_num, by omega, by omega, hidE (hst.out.take hlt (by omega) (by rw [HX.out]; exact HQ.out) ?_), hidE ((hkp.out.trans (KeepsB.below HB2.out (fun b hb => by have := HF.out b hb; have := hkp.out.size; omega))).trans ⟨by simp, fun b hb => heap_setCell_other _ _ _ _ (by have := HF.out b hb; simp; omega)⟩), hidE ((hbl.out.trans (HB2.out.mono (by have := hbl.out.size; omega))).setCell (by exact hb) _), by have := HB2.out.size; simp; omega⟩
              rw [HX.out]
              exact heap_setCell_same _ _ _ _ _ _ HBK.out
            case measure => simp [intOf]; omega
        · obtain rfl : jj = xs.length := by omega
          have hcl : ∀ ty, (Builtin.clear_ #[35] ty #[.slice (some ⟨g, ii, none⟩) (xs.length - ii) (cap - ii)]).run Tryz.prog wr = .ok (.tuple #[]) (wr.setCells g ii (List.replicate (xs.length - ii) (.int .i64 0))) :=
            fun ty => Lib.run_clear_slice wr 35 3 ty (.int .i64 0) Tryz.underlying35 Tryz.zeroValue3 rfl rfl g ii _ _ (by omega) (fun j hj => by
              obtain ⟨z, hz⟩ := hst.out.ints (ii + j) (by omega)
              rw [cell_of_row _ _ _ _ _ _ hst.out.blk, hz]; rfl) (fun j _ => frozen_of_row _ _ _ _ _ hst.out.blk)
          have HST2 := hidE hst.out
          obtain ⟨C', hC1, hC2, hC3⟩ := setCells_block (g := g) (List.replicate (xs.length - ii) (.int .i64 0)) ii wr D hst.out.blk
          have hbx : Below base w (wr.setCells g ii (List.replicate (xs.length - ii) (.int .i64 0))) := below_setCells hbl.out hb _ _
          have HBX := hidE hbx
          have HC1 := hidE hC1
          have HC3 := hidE hC3
          have hii : ii < xs.length := hij
          clear hst hC1 hC3 hbx
          go_wp2_with fail
          go_ret
          have hall : xs.take xs.length = xs := List.take_of_length_le (Nat.le_refl _)
          have hh := HST2.out.head
          have hn := HST2.out.len
          rw [hall] at hh hn
          refine ⟨_, rfl, ?_, HBX.out⟩
          rw [hn]
          refine ⟨by simp [intsV, hn], .inr ⟨g, cap, C', rfl, hb, HC1.out, by omega, hcm, by rw [hC2, HST2.out.size, Nat.mul_one], ?_⟩⟩
          rw [Nat.mul_one, ← hh]
          apply List.ext_getElem?
          intro k
          rw [List.getElem?_take, List.getElem?_take]
          split
          · rw [Array.getElem?_toList, Array.getElem?_toList]; exact HC3.out k ‹_›
          · rfl

end Go.Proofs.YthcmjhellpjllaaGreat

/- Walks: slices.IndexFunc and DeleteFunc at []Bound. -/
namespace Go.Proofs.YthcmjhellpjllaaGreat
open Go Go.RowKit Go.Shelf

/-- What a closure that tests bounds owes, where its own memory stands. -/
def TestsBoundsK (P : Program) (f : FuncId) (caps : Array Value) (Fix : Nat → Prop) (w : World) (bs : List Bd) (p : Bd → Bool) : Prop :=
  ∀ k (_ : k < bs.length) (W : World), KeepsB Fix w W → Calls P f (#[bs[k].val] ++ caps) W fun e W' => e = .returned (.bool (p bs[k])) ∧ Below W.heap.size W W'

set_option maxHeartbeats 400000 in
theorem indexFuncBounds_any (w : World) (a : Option Addr) (cap : Nat) (bs : List Bd) (f : FuncId) (caps : Array Value) (Fix : Nat → Prop) (p : Bd → Bool) (hl : bs.length ≤ 9223372036854775807) (h : BoundsAt w a bs)
    (hF : ∀ b, Fix b → b < w.heap.size) (hf : TestsBoundsK Tryz.prog f caps Fix w bs p) (eg : Enters Tryz.prog f) :
    Calls Tryz.prog 81 #[.slice a bs.length cap, .func (.func f) #[] caps] w fun e w' => e = .returned (.int .i64 (idxOf p bs)) ∧ Below w.heap.size w w' := by
  have H := hidE h
  have HF := hidE hf
  have HFx := hidE hF
  unfold Enters at eg
  clear h hf hF
  go_enter Tryz.func81, Tryz.ntmps81
  go_wp2
  go_loopw [8] (fun i wr => ∃ k : Nat, k ≤ bs.length ∧ i = .int .i64 k ∧ Hid ((bs.take k).any p = false) ∧ Below w.heap.size w wr)
      (fun i _ => bs.length - (intOf i).toNat)
  case atStart => exact ⟨0, by omega, rfl, hidE rfl, by go_grown⟩
  case round =>
    obtain ⟨k, hk, rfl, HA, hb⟩ := hrel
    by_cases hlt : k < bs.length
    · obtain ⟨b, off, rfl, hbl, hcs⟩ := H.out.at hlt
      obtain ⟨c0, c1, c2, c3⟩ := hcs.below hb hbl
      have hcall := HF.out k hlt wr (KeepsB.below hb HFx.out)
      unfold Bd.val at hcall
      obtain ⟨x, hx⟩ : ∃ x, bs[k] = x := ⟨_, rfl⟩
      rw [hx] at c0 c1 c2 c3 hcall
      have HX := hidE hx
      clear hx hcs
      obtain ⟨q, hq⟩ : ∃ q, p x = q := ⟨_, rfl⟩
      rw [hq] at hcall
      have HC := hidE hcall
      have HQ := hidE hq
      clear hcall hq
      cases q with
      | true =>
        go_wp2_with (go_at_fn f; refine HC.out.mono ?_; rintro e w' ⟨rfl, hb'⟩)
        go_ret
        exact ⟨by rw [idxOf_found hlt HA.out (by rw [HX.out]; exact HQ.out)]; rfl, hb.trans (hb'.mono hb.size)⟩
      | false =>
        go_wp2_with (go_at_fn f; refine HC.out.mono ?_; rintro e w' ⟨rfl, hb'⟩)
        go_roundw
        case rel => exact ⟨k + 1, by omega, by go_num, hidE (take_any_succ hlt HA.out (by rw [HX.out]; exact HQ.out)), hb.trans (hb'.mono hb.size)⟩
        case measure => simp [intOf]; omega
    · go_wp2_with fail
      go_ret
      exact ⟨by rw [idxOf_none (any_of_take (by omega) HA.out)]; rfl, hb⟩

/-- Four cells written. -/
def put4 (C : Array Value) (i : Nat) (b : Bd) : Array Value := (((C.setIfInBounds (i * 4) (.int .i64 b.src)).setIfInBounds (i * 4 + 1) (.int .i64 b.dst)).setIfInBounds (i * 4 + 2) (.int .i64 b.most)).setIfInBounds (i * 4 + 3) (.int .i64 b.rcd)
theorem put4_size (C : Array Value) (i : Nat) (b : Bd) : (put4 C i b).size = C.size := by simp [put4]
theorem put4_out (C : Array Value) (i : Nat) (b : Bd) (k : Nat) (h : k < i * 4 ∨ i * 4 + 4 ≤ k) : (put4 C i b)[k]? = C[k]? := by
  unfold put4
  rw [Array.getElem?_setIfInBounds_ne (by omega), Array.getElem?_setIfInBounds_ne (by omega), Array.getElem?_setIfInBounds_ne (by omega), Array.getElem?_setIfInBounds_ne (by omega)]
theorem put4_in (C : Array Value) (i : Nat) (b : Bd) (h : i * 4 + 4 ≤ C.size) (j : Nat) (hj : j < 4) : (put4 C i b)[i * 4 + j]? = b.cells[j]? := by
  unfold put4 Bd.cells
  have h4 : j = 0 ∨ j = 1 ∨ j = 2 ∨ j = 3 := by omega
  rcases h4 with rfl | rfl | rfl | rfl
  · rw [Array.getElem?_setIfInBounds_ne (by omega), Array.getElem?_setIfInBounds_ne (by omega), Array.getElem?_setIfInBounds_ne (by omega), Nat.add_zero, Array.getElem?_setIfInBounds_self_of_lt (by omega)]; rfl
  · rw [Array.getElem?_setIfInBounds_ne (by omega), Array.getElem?_setIfInBounds_ne (by omega), Array.getElem?_setIfInBounds_self_of_lt (by simp; omega)]; rfl
  · rw [Array.getElem?_setIfInBounds_ne (by omega), Array.getElem?_setIfInBounds_self_of_lt (by simp; omega)]; rfl
  · rw [Array.getElem?_setIfInBounds_self_of_lt (by simp; omega)]; rfl

theorem filterB_take_succ {p : Bd → Bool} {xs : List Bd} {j : Nat} (hj : j < xs.length) : (xs.take (j + 1)).filter (fun x => !p x) = (xs.take j).filter (fun x => !p x) ++ (if p xs[j] then [] else [xs[j]]) := by
  rw [List.take_succ_eq_append_getElem hj, List.filter_append]
  cases h : p xs[j] <;> simp [h]

theorem filterB_none {p : Bd → Bool} {l : List Bd} (h : l.any p = false) : l.filter (fun x => !p x) = l := by
  apply List.filter_eq_self.2
  intro x hx
  have := List.any_eq_false.1 h x hx
  simpa using this

/-- The row while it is written. -/
structure DelBSt (W : World) (g cap : Nat) (xs : List Bd) (p : Bd → Bool) (i j : Nat) (C : Array Value) : Prop where
  blk : W.heap[g]? = some (.cells C 47 (0,0))
  size : C.size = cap * 4
  head : C.toList.take (i * 4) = flat ((xs.take j).filter fun x => !p x)
  tail : ∀ k (h : k < xs.length), j ≤ k → ∀ q, q < 4 → C[k * 4 + q]? = xs[k].cells[q]?
  len : ((xs.take j).filter fun x => !p x).length = i
  fit : xs.length ≤ cap

theorem DelBSt.skip {W W' : World} {g cap : Nat} {xs : List Bd} {p : Bd → Bool} {i j : Nat} {C : Array Value} (h : DelBSt W g cap xs p i j C) (hj : j < xs.length) (hp : p xs[j] = true) (hW : W'.heap[g]? = W.heap[g]?) : DelBSt W' g cap xs p i (j + 1) C :=
  ⟨hW.trans h.blk, h.size, by rw [filterB_take_succ hj, hp, if_pos rfl, List.append_nil]; exact h.head, fun k hk hjk => h.tail k hk (by omega), by rw [filterB_take_succ hj, hp, if_pos rfl, List.append_nil]; exact h.len, h.fit⟩

theorem DelBSt.take {W W' : World} {g cap : Nat} {xs : List Bd} {p : Bd → Bool} {i j : Nat} {C : Array Value} (h : DelBSt W g cap xs p i j C) (hj : j < xs.length) (hij : i ≤ j) (hp : p xs[j] = false) (hW : W'.heap[g]? = some (.cells (put4 C i xs[j]) 47 (0,0))) : DelBSt W' g cap xs p (i + 1) (j + 1) (put4 C i xs[j]) := by
  have hfit := h.fit
  have hi : i * 4 + 4 ≤ C.size := by rw [h.size]; omega
  refine ⟨hW, by rw [put4_size]; exact h.size, ?_, fun k hk hjk q hq => ?_, ?_, h.fit⟩
  · rw [filterB_take_succ hj, hp]
    simp only [Bool.false_eq_true, if_false]
    rw [flat_append, ← h.head]
    apply List.ext_getElem?
    intro k
    have hlh : (C.toList.take (i * 4)).length = i * 4 := by rw [List.length_take, Array.length_toList]; omega
    by_cases hk : k < i * 4
    · rw [List.getElem?_append_left (by omega), List.getElem?_take_of_lt (by omega), List.getElem?_take_of_lt hk, Array.getElem?_toList, Array.getElem?_toList, put4_out _ _ _ _ (.inl hk)]
    · rw [List.getElem?_append_right (by omega), hlh]
      by_cases hk2 : k < i * 4 + 4
      · rw [List.getElem?_take_of_lt (by omega), Array.getElem?_toList]
        have := put4_in C i xs[j] hi (k - i * 4) (by omega)
        rw [show i * 4 + (k - i * 4) = k by omega] at this
        rw [this]
        simp [flat]
      · rw [List.getElem?_eq_none (by rw [List.length_take, Array.length_toList, put4_size]; omega), List.getElem?_eq_none (by rw [flat_length]; simp; omega)]
  · rw [put4_out _ _ _ _ (.inr (by omega))]
    exact h.tail k hk (by omega) q hq
  · rw [filterB_take_succ hj, hp]
    simp [h.len]

/-- A list of bounds that stands in a block. -/
theorem ownsB_block {W : World} {base g n cap : Nat} {xs : List Bd} (h : W.ownsRow base 47 4 (.slice (some ⟨g, 0, none⟩) n cap) n (flat xs)) : ∃ C, W.heap[g]? = some (.cells C 47 (0,0)) ∧ base ≤ g ∧ n ≤ cap ∧ cap ≤ maxLen ∧ C.size = cap * 4 ∧ C.toList.take (n * 4) = flat xs := by
  rcases h.2 with ⟨e, _⟩ | ⟨g', cp, cu, e, hb, hh, hn, hm, hs, ht⟩
  · cases e
  · cases e; exact ⟨cu, hh, hb, hn, hm, hs, ht⟩

theorem run_clear_bounds (w : World) (ty : TypeId) (b o n c : Nat) (hn : 0 < n) (hc : ∀ j, j < n * 4 → (w.cell? ⟨b, o + j, none⟩).isSome = true) (hf : ∀ j, j < n * 4 → w.frozen? ⟨b, o + j, none⟩ = false) :
    ∃ zs : List Value, (Builtin.clear_ #[22] ty #[.slice (some ⟨b, o, none⟩) n c]).run Tryz.prog w = .ok (.tuple #[]) (w.setCells b o zs) := by
  have hz : ∀ w, (zeroValue 47).run Tryz.prog w = .ok (.agg #[.int .i64 0, .int .i64 0, .int .i64 0, .int .i64 0]) w := Tryz.zeroValue47
  have hsz : (Builtin.zeroCells (Value.agg #[.int .i64 0, .int .i64 0, .int .i64 0, .int .i64 0]).cells n).toList.length = n * 4 := by
    rw [Array.length_toList, size_zeroCells]; simp [Value.cells]
  have hone : ∀ v ∈ (Builtin.zeroCells (Value.agg #[.int .i64 0, .int .i64 0, .int .i64 0, .int .i64 0]).cells n).toList, v.oneCell' = true := by
    intro v hv
    simp only [Builtin.zeroCells, Value.cells] at hv
    simp at hv
    obtain ⟨k, _, rfl⟩ := hv
    have : k % 4 = 0 ∨ k % 4 = 1 ∨ k % 4 = 2 ∨ k % 4 = 3 := by omega
    rcases this with e | e | e | e <;> simp [e, Value.oneCell']
  have hst := run_storeCells_cells (P := Tryz.prog) b o _ 0 w (by intro j hj; rw [hsz] at hj; simpa using hc j hj) (by intro j hj; rw [hsz] at hj; exact hf j hj) hone
  simp only [Nat.add_zero] at hst
  obtain ⟨m, rfl⟩ : ∃ m, n = m + 1 := ⟨n - 1, by omega⟩
  refine ⟨(Builtin.zeroCells (Value.agg #[.int .i64 0, .int .i64 0, .int .i64 0, .int .i64 0]).cells (m + 1)).toList, ?_⟩
  simp [Builtin.clear_, run_underlying Tryz.underlying22, hz, hst]

set_option maxRecDepth 100000 in
set_option maxHeartbeats 2000000 in
theorem deleteBounds_any (w : World) (base : Nat) (v : Value) (xs : List Bd) (f : FuncId) (caps : Array Value) (Fix : Nat → Prop) (p : Bd → Bool) (hl : xs.length ≤ 100000) (hown : w.ownsRow base 47 4 v xs.length (flat xs)) (hb0 : base ≤ w.heap.size)
    (hF : ∀ b, Fix b → b < base) (hT : TestsBoundsK Tryz.prog f caps Fix w xs p) (eg : Enters Tryz.prog f) :
    Calls Tryz.prog 72 #[v, .func (.func f) #[] caps] w fun e w' => ∃ v', e = .returned v' ∧ BoundsOut (xs.filter fun x => !p x) base v' w' ∧ Below base w w' := by
  have HT := hidE hT
  have HF := hidE hF
  have EG := hidE eg
  have hFw : ∀ b, Fix b → b < w.heap.size := fun b hb => Nat.lt_of_lt_of_le (hF b hb) hb0
  by_cases hv : v = .slice none 0 0
  · subst hv
    have h0 : xs = [] := by
      rcases hown.2 with ⟨_, e⟩ | ⟨g, cp, cu, e, _⟩
      · exact List.length_eq_zero_iff.1 e
      · cases e
    subst h0
    have hidx := indexFuncBounds_any w none 0 [] f caps Fix p (by simp) (.inl rfl) hFw hT eg
    have HI := hidE hidx
    clear hidx hown hFw hl hT hF eg
    go_enter Tryz.func72, Tryz.ntmps72
    go_wp2_with (go_at_call 81; refine HI.out.mono ?_; rintro e w1 ⟨rfl, hb1⟩)
    go_ret
    exact ⟨_, rfl, World.ownsRow_nil _ _ _ _, hb1.mono hb0⟩
  · obtain ⟨g, cap, hve, C, hC, hb, hc, hcm, hCs, hCt⟩ : ∃ g cap, v = .slice (some ⟨g, 0, none⟩) xs.length cap ∧ ∃ C : Array Value, w.heap[g]? = some (.cells C 47 (0,0)) ∧ base ≤ g ∧ xs.length ≤ cap ∧ cap ≤ maxLen ∧ C.size = cap * 4 ∧ C.toList.take (xs.length * 4) = flat xs := by
      rcases hown.2 with ⟨e, _⟩ | ⟨g', cp, cu, e, hb, hh, hn, hm, hs, ht⟩
      · exact absurd e hv
      · exact ⟨g', cp, e, cu, hh, hb, hn, hm, hs, ht⟩
    subst hve
    have hg := lt_of_block hC
    have hcells : ∀ k (hk : k < xs.length) q, q < 4 → C[k * 4 + q]? = xs[k].cells[q]? := by
      intro k hk q hq
      have h1 := flat_get xs k hk q hq
      rw [← hCt, List.getElem?_take_of_lt (by omega), Array.getElem?_toList] at h1
      exact h1
    have hbounds : BoundsAt w (some ⟨g, 0, none⟩) xs := by
      right
      refine ⟨g, 0, rfl, hg, fun i hi => ⟨?_, ?_, ?_, ?_⟩⟩
      · rw [cell_of_row _ _ _ _ _ _ hC, Nat.zero_add]; exact hcells i hi 0 (by omega)
      · rw [cell_of_row _ _ _ _ _ _ hC, Nat.zero_add]; exact hcells i hi 1 (by omega)
      · rw [cell_of_row _ _ _ _ _ _ hC, Nat.zero_add]; exact hcells i hi 2 (by omega)
      · rw [cell_of_row _ _ _ _ _ _ hC, Nat.zero_add]; exact hcells i hi 3 (by omega)
    have hidx := indexFuncBounds_any w (some ⟨g, 0, none⟩) cap xs f caps Fix p (by omega) hbounds hFw hT eg
    by_cases hany : xs.any p = false
    · rw [idxOf_none hany] at hidx
      have HI := hidE hidx
      have HOW := hidE hown
      clear hidx hown hT hF eg hFw hCt hcells hbounds hC
      go_enter Tryz.func72, Tryz.ntmps72
      go_wp2_with (go_at_call 81; refine HI.out.mono ?_; rintro e w1 ⟨rfl, hb1⟩)
      go_ret
      refine ⟨_, rfl, ?_, hb1.mono hb0⟩
      unfold BoundsOut
      rw [filterB_none hany]
      exact ownsRow_of_block HOW.out (fun q e => hb1.block q (owns_lt' HOW.out e))
    · have hnn : ¬ idxOf p xs < 0 := by rw [idxOf_neg]; exact hany
      obtain ⟨m, hm⟩ := Int.eq_ofNat_of_zero_le (Int.not_lt.1 hnn)
      obtain ⟨m1, m2, _, m4⟩ := filter_idx hm
      have hst0 : DelBSt w g cap xs p m (m + 1) C := by
        have hf : (xs.take m).filter (fun x => !p x) = xs.take m := filterB_none m2
        refine ⟨hC, hCs, ?_, fun k hk _ => hcells k hk, ?_, hc⟩
        · rw [filterB_take_succ m1, m4, if_pos rfl, List.append_nil, hf]
          have e1 : (C.toList.take (xs.length * 4)).take (m * 4) = (flat xs).take (m * 4) := by rw [hCt]
          rw [List.take_take, Nat.min_eq_left (by omega)] at e1
          rw [e1]
          have e2 : flat xs = flat (xs.take m) ++ flat (xs.drop m) := by rw [← flat_append, List.take_append_drop]
          rw [e2, List.take_left' (by rw [flat_length, List.length_take]; omega)]
        · rw [filterB_take_succ m1, m4, if_pos rfl, List.append_nil, hf, List.length_take]; omega
      rw [hm] at hidx
      have hm0 : ((m : Int) == -1) = false := by simp
      have HI := hidE hidx
      have HST := hidE hst0
      have HFW := hidE hFw
      clear hidx hown hT hF eg hFw hCt hcells hbounds hC hst0 m2 m4 hany hnn hm
      go_enter Tryz.func72, Tryz.ntmps72
      go_wp2_with (go_at_call 81; refine HI.out.mono ?_; rintro e w1 ⟨rfl, hb1⟩)
      have hst1 : DelBSt w1 g cap xs p m (m + 1) C := ⟨(hb1.block g hg).trans HST.out.blk, HST.out.size, HST.out.head, HST.out.tail, HST.out.len, HST.out.fit⟩
      have hk1 := KeepsB.below hb1 HFW.out
      have HST1 := hidE hst1
      have HK1 := hidE hk1
      have HB1 := hidE (hb1.mono hb0)
      clear hst1 hk1 hb1
      go_loopw [5, 6] (fun i j wr => ∃ (ii jj : Nat) (C : Array Value), i = .int .i64 ii ∧ j = .int .i64 jj ∧ ii < jj ∧ jj ≤ xs.length ∧ Hid (DelBSt wr g cap xs p ii jj C) ∧ Hid (KeepsB Fix w wr) ∧ Hid (Below base w wr) ∧ w1.heap.size ≤ wr.heap.size)
        (fun _ j _ => xs.length - (intOf j).toNat)
      case atStart => exact ⟨m, m + 1, C, rfl, by go_num, by omega, by omega, HST1, HK1, HB1, Nat.le_refl _⟩
      case round =>
        obtain ⟨ii, jj, D, rfl, rfl, hij, hjn, hst, hkp, hbl, hsz⟩ := hrel
        by_cases hlt : jj < xs.length
        · have ht := hst.out.tail jj hlt (Nat.le_refl _)
          have c0 : wr.cell? ⟨g, jj * 4, none⟩ = some (.int .i64 xs[jj].src) := by rw [cell_of_row _ _ _ _ _ _ hst.out.blk]; exact ht 0 (by omega)
          have c1 : wr.cell? ⟨g, jj * 4 + 1, none⟩ = some (.int .i64 xs[jj].dst) := by rw [cell_of_row _ _ _ _ _ _ hst.out.blk]; exact ht 1 (by omega)
          have c2 : wr.cell? ⟨g, jj * 4 + 1 + 1, none⟩ = some (.int .i64 xs[jj].most) := by rw [cell_of_row _ _ _ _ _ _ hst.out.blk]; exact ht 2 (by omega)
          have c3 : wr.cell? ⟨g, jj * 4 + 1 + 1 + 1, none⟩ = some (.int .i64 xs[jj].rcd) := by rw [cell_of_row _ _ _ _ _ _ hst.out.blk]; exact ht 3 (by omega)
          have hgw := lt_of_block hst.out.blk
          have ba : Below wr.heap.size wr (wr.alloc (.cells #[.int .i64 xs[jj].src, .int .i64 xs[jj].dst, .int .i64 xs[jj].most, .int .i64 xs[jj].rcd] 47)) := (Below.refl _ _).alloc (Nat.le_refl _) _
          have hbx : base ≤ wr.heap.size := by have := hbl.out.size; omega
          have hka := hkp.out.trans (KeepsB.below ba (fun b hb => by have := HF.out b hb; omega))
          have hcall := HT.out jj hlt _ hka
          unfold Bd.val at hcall
          obtain ⟨x, hx⟩ : ∃ x, xs[jj] = x := ⟨_, rfl⟩
          rw [hx] at c0 c1 c2 c3 hcall ba hka
          have HX := hidE hx
          have eg' := EG.out
          unfold Enters at eg'
          obtain ⟨q, hq⟩ : ∃ q, p x = q := ⟨_, rfl⟩
          rw [hq] at hcall
          have HC := hidE hcall
          have HQ := hidE hq
          have HKA := hidE hka
          have HBA := hidE ba
          clear hcall hq hx hka ba ht
          go_wp2_with fail
          refine HC.out.mono ?_
          rintro e w2 ⟨rfl, hb2⟩
          have bl2 : Below wr.heap.size wr w2 := HBA.out.trans (hb2.mono (by simp))
          have kp2 : KeepsB Fix w w2 := HKA.out.trans (KeepsB.below hb2 (fun b hb => by have := HF.out b hb; simp; omega))
          have hblk2 := (bl2.block g hgw).trans hst.out.blk
          have hx44 := blk_below hb2 (by simp) (heap_alloc_new wr (.cells #[.int .i64 x.src, .int .i64 x.dst, .int .i64 x.most, .int .i64 x.rcd] 47))
          have e0 : w2.cell? ⟨wr.heap.size, 0, none⟩ = some (.int .i64 x.src) := by rw [cell_of_row _ _ _ _ _ _ hx44]; rfl
          have e1 : w2.cell? ⟨wr.heap.size, 1, none⟩ = some (.int .i64 x.dst) := by rw [cell_of_row _ _ _ _ _ _ hx44]; rfl
          have e2 : w2.cell? ⟨wr.heap.size, 2, none⟩ = some (.int .i64 x.most) := by rw [cell_of_row _ _ _ _ _ _ hx44]; rfl
          have e3 : w2.cell? ⟨wr.heap.size, 3, none⟩ = some (.int .i64 x.rcd) := by rw [cell_of_row _ _ _ _ _ _ hx44]; rfl
          have HBL2 := hidE bl2
          have HKP2 := hidE kp2
          have HBK := hidE hblk2
          clear hb2 bl2 kp2 hblk2 hx44 c0 c1 c2 c3
          cases q with
          | true =>
            go_wp2_with fail
            go_roundw
            case rel =>
              exact ⟨ii, jj + 1, D, rfl, by go_num, by omega, by omega, hidE (hst.out.skip hlt (by rw [HX.out]; exact HQ.out) (HBL2.out.block g hgw)), HKP2, hidE (hbl.out.trans (HBL2.out.mono hbx)), by have := HBL2.out.size; omega⟩
            case measure => simp [intOf]; omega
          | false =>
            have hil : ii < xs.length := by omega
            have hDs : ii * 4 + 3 < D.size := by rw [hst.out.size]; have := hst.out.fit; omega
            obtain ⟨z0, hz0⟩ : ∃ z, D[ii * 4]? = some z := ⟨_, Array.getElem?_eq_getElem (by omega)⟩
            obtain ⟨z1, hz1⟩ : ∃ z, D[ii * 4 + 1]? = some z := ⟨_, Array.getElem?_eq_getElem (by omega)⟩
            obtain ⟨z2, hz2⟩ : ∃ z, D[ii * 4 + 2]? = some z := ⟨_, Array.getElem?_eq_getElem (by omega)⟩
            obtain ⟨z3, hz3⟩ : ∃ z, D[ii * 4 + 3]? = some z := ⟨_, Array.getElem?_eq_getElem (by omega)⟩
            have i0 : w2.cell? ⟨g, ii * 4, none⟩ = some z0 := by rw [cell_of_row _ _ _ _ _ _ HBK.out]; exact hz0
            have i1 : w2.cell? ⟨g, ii * 4 + 1, none⟩ = some z1 := by rw [cell_of_row _ _ _ _ _ _ HBK.out]; exact hz1
            have i2 : w2.cell? ⟨g, ii * 4 + 1 + 1, none⟩ = some z2 := by rw [cell_of_row _ _ _ _ _ _ HBK.out]; exact hz2
            have i3 : w2.cell? ⟨g, ii * 4 + 1 + 1 + 1, none⟩ = some z3 := by rw [cell_of_row _ _ _ _ _ _ HBK.out]; exact hz3
            have ff : ∀ i, w2.frozen? ⟨g, i, none⟩ = false := fun i => frozen_of_row _ _ _ _ _ HBK.out
            clear hz0 hz1 hz2 hz3
            go_wp2_with fail
            go_roundw
            case rel =>
              refine ⟨ii + 1, jj + 1, put4 D ii xs[jj], by go_num, by go_num, by omega, by omega, hidE (hst.out.take hlt (by omega) (by rw [HX.out]; exact HQ.out) ?_), hidE (HKP2.out.trans ⟨by simp, fun b hb => ?_⟩), hidE (((((hbl.out.trans (HBL2.out.mono hbx)).setCell (by exact hb) _).setCell (by exact hb) _).setCell (by exact hb) _).setCell (by exact hb) _), by have := HBL2.out.size; simp; omega⟩
              · rw [HX.out]
                exact heap_setCell_same _ _ _ _ _ _ (heap_setCell_same _ _ _ _ _ _ (heap_setCell_same _ _ _ _ _ _ (heap_setCell_same _ _ _ _ _ _ HBK.out)))
              · have hne : b ≠ g := by have := HF.out b hb; omega
                exact (heap_setCell_other _ _ _ _ hne).trans ((heap_setCell_other _ _ _ _ hne).trans ((heap_setCell_other _ _ _ _ hne).trans (heap_setCell_other _ _ _ _ hne)))
            case measure => simp [intOf]; omega
        · obtain rfl : jj = xs.length := by omega
          have hcl : ∀ ty, ∃ zs : List Value, (Builtin.clear_ #[22] ty #[.slice (some ⟨g, ii * 4, none⟩) (xs.length - ii) (cap - ii)]).run Tryz.prog wr = .ok (.tuple #[]) (wr.setCells g (ii * 4) zs) :=
            fun ty => run_clear_bounds wr ty g (ii * 4) _ _ (by omega) (fun j hj => by
              rw [cell_of_row _ _ _ _ _ _ hst.out.blk, Array.getElem?_eq_getElem (by rw [hst.out.size]; have := hst.out.fit; omega)]; rfl) (fun j _ => frozen_of_row _ _ _ _ _ hst.out.blk)
          obtain ⟨zs, hzs⟩ := hcl 0
          have HST2 := hidE hst.out
          obtain ⟨C', hC1, hC2, hC3⟩ := setCells_block (g := g) zs (ii * 4) wr D hst.out.blk
          have hbx : Below base w (wr.setCells g (ii * 4) zs) := below_setCells hbl.out hb _ _
          have HBX := hidE hbx
          have HC1 := hidE hC1
          have HC3 := hidE hC3
          have hii : ii < xs.length := hij
          clear hst hC1 hC3 hbx hcl
          go_wp2_with fail
          go_ret
          have hall : xs.take xs.length = xs := List.take_of_length_le (Nat.le_refl _)
          have hh := HST2.out.head
          have hn := HST2.out.len
          rw [hall] at hh hn
          refine ⟨_, rfl, ?_, HBX.out⟩
          unfold BoundsOut
          rw [hn]
          refine ⟨by rw [flat_length, hn], .inr ⟨g, cap, C', rfl, hb, HC1.out, by omega, hcm, by rw [hC2, HST2.out.size], ?_⟩⟩
          rw [← hh]
          apply List.ext_getElem?
          intro k
          rw [List.getElem?_take, List.getElem?_take]
          split
          · rw [Array.getElem?_toList, Array.getElem?_toList]; exact HC3.out k ‹_›
          · rfl

end Go.Proofs.YthcmjhellpjllaaGreat

/- Walks: without; Blame. -/
namespace Go.Proofs.YthcmjhellpjllaaGreat
open Go Go.RowKit Go.Shelf

theorem contains_any (w : World) (a : Option Addr) (cap : Nat) (l : List Int) (x : Int) (hl : l.length ≤ 9223372036854775807) (h : IntsAt w a l) :
    Calls Tryz.prog 74 #[.slice a l.length cap, .int .i64 x] w fun e w' => e = .returned (.bool (l.contains x)) ∧ w = w' := by
  rcases h with e | ⟨b, off, e, _, hc⟩
  · subst e
    exact (Tryz.slices_Contains_int_empty a cap x w).mono fun e w' ⟨h1, h2⟩ => ⟨by rw [h1]; simp, h2.symm⟩
  · subst e
    refine (Tryz.slices_Contains_int b off l.length cap l x w (Nat.le_refl _) hl (fun j hj => by rw [hc j hj, getD_get l 0 hj])).mono fun e w' ⟨h1, h2⟩ => ⟨by rw [h1, List.take_of_length_le (Nat.le_refl _)], h2.symm⟩

theorem without1_any (w : World) (b : Bd) (bl : Nat) (a : Option Addr) (cap : Nat) (l : List Int) (hl : l.length ≤ 9223372036854775807) (h : IntsAt w a l) (hc : w.cell? ⟨bl, 0, none⟩ = some (.slice a l.length cap)) (hbl : bl < w.heap.size) :
    Calls Tryz.prog 73 #[b.val, .pointer (some ⟨bl, 0, none⟩)] w fun e w' => e = .returned (.bool (l.contains b.rcd)) ∧ Below w.heap.size w w' := by
  unfold Bd.val
  have H := hidE (h.alloc (.cells #[.int .i64 b.src, .int .i64 b.dst, .int .i64 b.most, .int .i64 b.rcd] 47))
  clear h
  go_enter Tryz.func73, Tryz.ntmps73
  go_wp2_with (go_at_call 74; refine (contains_any _ a cap l _ hl H.out).mono ?_; rintro e w' ⟨rfl, rfl⟩)
  go_ret
  exact ⟨by simp, (Below.refl _ _).alloc (Nat.le_refl _) _⟩

def withoutP (bs : List Bd) (l : List Int) : List Bd := bs.filter fun b => !l.contains b.rcd

theorem boundsAt_of_out {W : World} {base : Nat} {v : Value} {l : List Bd} (h : BoundsOut l base v W) : ∃ o cap, v = .slice o l.length cap ∧ BoundsAt W o l ∧ SliceOk o l.length cap := by
  unfold BoundsOut at h
  rcases h.2 with ⟨e, h0⟩ | ⟨gb, cp, cur, e, _, hh, hn, _, hsz, htk⟩
  · exact ⟨none, 0, by rw [e, h0], .inl (List.length_eq_zero_iff.1 h0), fun _ => ⟨h0, rfl⟩⟩
  · refine ⟨_, _, e, .inr ⟨gb, 0, rfl, lt_of_block hh, fun i hi => ?_⟩, fun e => by cases e⟩
    have key : ∀ j v, j < 4 → (l[i]).cells[j]? = some v → W.cell? ⟨gb, 0 + i * 4 + j, none⟩ = some v := by
      intro j v hj hv
      rw [cell_of_row _ _ _ _ _ _ hh, Nat.zero_add]
      have hlt : i * 4 + j < l.length * 4 := by omega
      have := flat_get l i hi j hj
      rw [← htk, List.getElem?_take_of_lt hlt, hv] at this
      simpa using this
    exact ⟨key 0 _ (by omega) rfl, key 1 _ (by omega) rfl, key 2 _ (by omega) rfl, key 3 _ (by omega) rfl⟩

theorem IntsAt.kept {w0 W : World} {a : Option Addr} {l : List Int} (h : IntsAt w0 a l) (hk : ∀ b, b < w0.heap.size → W.heap[b]? = w0.heap[b]?) (hs : w0.heap.size ≤ W.heap.size) : IntsAt W a l := by
  rcases h with e | ⟨b, off, e, hb, hc⟩
  · exact .inl e
  · exact .inr ⟨b, off, e, Nat.lt_of_lt_of_le hb hs, fun i hi => (World.cell?_of_block (w := w0) (hk b hb)).trans (hc i hi)⟩

theorem without_del (w W0 w1 : World) (l : List Int) (bs : List Bd) (a2 : Option Addr) (cap2 : Nat) (v : Value) (hl : bs.length ≤ 4000) (hl2 : l.length ≤ 9223372036854775807) (_b0 : Below w.heap.size w W0) (z0 : W0.heap.size = w.heap.size + 3)
    (x1 : W0.heap[w.heap.size + 1]? = some (.cells #[.slice a2 l.length cap2] 35 (0,0))) (h2 : IntsAt W0 a2 l) (ho : BoundsOut bs W0.drew.heap.size v w1) (hb : Below W0.drew.heap.size W0.drew w1) :
    Calls Tryz.prog 72 #[v, .func (.func 73) #[] #[.pointer (some ⟨w.heap.size + 1, 0, none⟩)]] w1 fun e w' => ∃ o n c, e = .returned (.slice o n c) ∧ BoundsOut (withoutP bs l) W0.heap.size (.slice o n c) w' ∧ Below W0.heap.size w1 w' := by
  have hb' : Below W0.heap.size W0 w1 := (Below.refl W0.heap.size W0).drew.trans hb
  refine (deleteBounds_any w1 W0.heap.size v bs 73 #[.pointer (some ⟨w.heap.size + 1, 0, none⟩)] (· < W0.heap.size) (fun b => l.contains b.rcd) (by omega) ho hb'.size (fun b hb => hb) ?_ (enters_of Tryz.func73 (by kernel_rfl) rfl)).mono (fun e w' ⟨v', h1, h2, h3⟩ => by
    obtain ⟨o, c, e1, _⟩ := boundsAt_of_out h2
    subst e1
    exact ⟨o, _, c, h1, h2, h3⟩)
  intro k hk W hkp
  have hk0 : ∀ b, b < W0.heap.size → W.heap[b]? = W0.heap[b]? := fun b hb => (hkp.same b hb).trans (hb'.block b hb)
  exact without1_any W bs[k] (w.heap.size + 1) a2 cap2 l hl2 (h2.kept hk0 (Nat.le_trans hb'.size hkp.size)) (cell_of_one ((hk0 _ (by omega)).trans x1)) (Nat.lt_of_lt_of_le (by omega) (Nat.le_trans hb'.size hkp.size))

theorem without_x2 (w W0 w1 w2 : World) (z0 : W0.heap.size = w.heap.size + 3) (x2 : W0.heap[w.heap.size + 2]? = some (.cells #[.int .i64 0, .slice none 0 0] 24 (0,0))) (hb : Below W0.drew.heap.size W0.drew w1) (hb2 : Below W0.heap.size w1 w2) :
    w2.cell? ⟨w.heap.size + 2, 0, none⟩ = some (.int .i64 0) ∧ w2.cell? ⟨w.heap.size + 2, 1, none⟩ = some (.slice none 0 0) ∧ w2.frozen? ⟨w.heap.size + 2, 0, none⟩ = false ∧ w2.frozen? ⟨w.heap.size + 2, 1, none⟩ = false ∧ w2.heap[w.heap.size + 2]? = some (.cells #[.int .i64 0, .slice none 0 0] 24 (0,0)) := by
  have h : w2.heap[w.heap.size + 2]? = some (.cells #[.int .i64 0, .slice none 0 0] 24 (0,0)) := (hb2.block _ (by omega)).trans ((hb.block _ (by show _ < W0.heap.size; omega)).trans x2)
  exact ⟨by rw [cell_of_row _ _ _ _ _ _ h]; rfl, by rw [cell_of_row _ _ _ _ _ _ h]; rfl, frozen_of_row _ _ _ _ _ h, frozen_of_row _ _ _ _ _ h, h⟩

set_option maxRecDepth 100000 in
set_option maxHeartbeats 2000000 in
theorem without_any (w : World) (N : Int) (a : Option Addr) (cap : Nat) (bs : List Bd) (a2 : Option Addr) (cap2 : Nat) (l : List Int) (hl : bs.length ≤ 4000) (hs : SliceOk a bs.length cap) (h : BoundsAt w a bs) (hl2 : l.length ≤ 9223372036854775807) (h2 : IntsAt w a2 l) :
    Calls Tryz.prog 52 #[.agg #[.int .i64 N, .slice a bs.length cap], .slice a2 l.length cap2] w fun e w' => ∃ v, e = .returned (.agg #[.int .i64 N, v]) ∧ BoundsOut (withoutP bs l) w.heap.size v w' ∧ Below w.heap.size w w' := by
  obtain ⟨W0, hW0⟩ : ∃ W0, ((w.alloc (.cells #[.int .i64 N, .slice a bs.length cap] 24)).alloc (.cells #[.slice a2 l.length cap2] 35)).alloc (.cells #[.int .i64 0, .slice none 0 0] 24) = W0 := ⟨_, rfl⟩
  have b0 : Below w.heap.size w W0 := by rw [← hW0]; exact (((Below.refl _ _).alloc (Nat.le_refl _) _).alloc (by simp) _).alloc (by simp; omega) _
  have x0 : W0.heap[w.heap.size]? = some (.cells #[.int .i64 N, .slice a bs.length cap] 24 (0,0)) := by rw [← hW0, Below.heap_alloc _ _ _ (by simp; omega), Below.heap_alloc _ _ _ (by simp), heap_alloc_new]
  have x1 : W0.heap[w.heap.size + 1]? = some (.cells #[.slice a2 l.length cap2] 35 (0,0)) := by rw [← hW0, Below.heap_alloc _ _ _ (by simp), heap_alloc_at _ _ _ (by simp)]
  have x2 : W0.heap[w.heap.size + 2]? = some (.cells #[.int .i64 0, .slice none 0 0] 24 (0,0)) := by rw [← hW0, heap_alloc_at _ _ _ (by simp)]
  have z0 : W0.heap.size = w.heap.size + 3 := by rw [← hW0]; simp
  have H := hidE (h.below b0 (Nat.le_refl _))
  have H2 := hidE (h2.below b0 (Nat.le_refl _))
  have c0 : W0.cell? ⟨w.heap.size, 0, none⟩ = some (.int .i64 N) := by rw [cell_of_row _ _ _ _ _ _ x0]; rfl
  have c1 : W0.cell? ⟨w.heap.size, 1, none⟩ = some (.slice a bs.length cap) := by rw [cell_of_row _ _ _ _ _ _ x0]; rfl
  have HW := hidE hW0
  have B0 := hidE b0
  have X1 := hidE x1
  have X2 := hidE x2
  have Z0 := hidE z0
  clear h h2 hW0 b0 x0 x1 x2 z0
  have l0 : w.heap.size < W0.heap.size := by have := Z0.out; omega
  go_enter Tryz.func52, Tryz.ntmps52
  go_upto_region 1 with fail
  rw [HW.out]
  go_cut [4] (fun s4 wx => s4 = .pointer (some ⟨w.heap.size + 1 + 1, 0, none⟩) ∧ ∃ v, Hid (wx.heap[w.heap.size + 2]? = some (.cells #[.int .i64 N, v] 24 (0,0))) ∧ Hid (BoundsOut (withoutP bs l) w.heap.size v wx) ∧ Hid (Below w.heap.size w wx))
  case first =>
    have hclo := cloneBounds_any W0.drew a cap bs hl hs (H.out.below ((Below.refl W0.heap.size W0).drew) (Nat.le_refl _))
    have HCLO := hidE hclo
    clear hclo
    go_region_held3 (fun w' => w'.cell? ⟨w.heap.size, 0, none⟩ = some (.int .i64 N) ∧ w'.cell? ⟨w.heap.size, 1, none⟩ = some (.slice a bs.length cap)) (first | go_keep | (exact ⟨(World.cell?_of_block (w := w2) ((heap_setCell_other _ _ _ _ (by simp; omega)).trans (heap_setCell_other _ _ _ _ (by simp; omega)))).trans q0, (World.cell?_of_block (w := w2) ((heap_setCell_other _ _ _ _ (by simp; omega)).trans (heap_setCell_other _ _ _ _ (by simp; omega)))).trans q1⟩))
      (first
        | (go_at_call 53; refine HCLO.out.mono ?_; rintro e w1 ⟨v, rfl, ho, hb⟩; (have u0 : w1.cell? ⟨w.heap.size, 0, none⟩ = some (.int .i64 N) := (hb.cell (p := ⟨w.heap.size, 0, none⟩) l0).trans c0); (have u1 : w1.cell? ⟨w.heap.size, 1, none⟩ = some (.slice a bs.length cap) := (hb.cell (p := ⟨w.heap.size, 1, none⟩) l0).trans c1); have HO1 := hidE ho; have HB1 := hidE hb; (try clear ho hb))
        | (go_at_call 72; refine (without_del w W0 w1 l bs a2 cap2 v hl hl2 B0.out Z0.out X1.out H2.out HO1.out HB1.out).mono ?_; rintro e w2 ⟨o2, n2, k2, rfl, ho2, hb2⟩; (have q0 : w2.cell? ⟨w.heap.size, 0, none⟩ = some (.int .i64 N) := (hb2.cell (p := ⟨w.heap.size, 0, none⟩) l0).trans u0); (have q1 : w2.cell? ⟨w.heap.size, 1, none⟩ = some (.slice a bs.length cap) := (hb2.cell (p := ⟨w.heap.size, 1, none⟩) l0).trans u1); (have q2 := without_x2 w W0 w1 w2 Z0.out X2.out HB1.out hb2); (have q3 : w2.cell? ⟨w.heap.size + 1 + 1, 0, none⟩ = some (.int .i64 0) := q2.1); (have q4 : w2.cell? ⟨w.heap.size + 1 + 1, 1, none⟩ = some (.slice none 0 0) := q2.2.1); (have q5 : w2.frozen? ⟨w.heap.size + 1 + 1, 0, none⟩ = false := q2.2.2.1); (have q6 : w2.frozen? ⟨w.heap.size + 1 + 1, 1, none⟩ = false := q2.2.2.2.1); have q7 := hidE q2.2.2.2.2; (try clear q2); have HO2 := hidE ho2; have HB2 := hidE hb2; (try clear ho2 hb2)))
    all_goals (go_wp2_with fail; go_meet)
    all_goals refine ⟨rfl, .slice o2 n2 k2, hidE ?_, hidE ?_, hidE ?_⟩
    all_goals first
      | exact (heap_setCell_same _ _ _ _ _ _ (heap_setCell_same _ _ _ _ _ _ q7.out)).trans rfl
      | exact (ownsRow_base (ownsRow_setCell_below (ownsRow_setCell_below HO2.out (by show w.heap.size + 1 + 1 < _; have := Z0.out; omega) _) (by show w.heap.size + 1 + 1 < _; have := Z0.out; omega) _) B0.out.size)
      | exact ((((B0.out.drew.trans (HB1.out.mono B0.out.size)).trans (HB2.out.mono B0.out.size)).setCell (by simp; omega) _).setCell (by simp; omega) _)
  case rest =>
    obtain ⟨rfl, v, h1, h2, h3⟩ := hcut
    obtain ⟨wf, rfl⟩ : ∃ x : World, x = wc := ⟨wc, rfl⟩
    have e0 : wf.cell? ⟨w.heap.size + 1 + 1, 0, none⟩ = some (.int .i64 N) := by rw [cell_of_row _ _ _ _ _ _ h1.out]; rfl
    have e1 : wf.cell? ⟨w.heap.size + 1 + 1, 1, none⟩ = some v := by rw [cell_of_row _ _ _ _ _ _ h1.out]; rfl
    clear c0 c1
    go_wp2_with fail
    exact bodyPost_ret (v := .agg #[.int .i64 N, v]) (by simp [results, Tryz.results52, go_sem, e0, e1]) rfl ⟨v, rfl, h2.out, h3.out⟩

end Go.Proofs.YthcmjhellpjllaaGreat

/- Walks: Blame. -/
namespace Go.Proofs.YthcmjhellpjllaaGreat
open Go Go.RowKit Go.Shelf

theorem withoutP_len (bs : List Bd) (l : List Int) : (withoutP bs l).length ≤ bs.length := List.length_filter_le _ _
theorem withoutP_mem {bs : List Bd} {l : List Int} {b : Bd} (h : b ∈ withoutP bs l) : b ∈ bs := (List.mem_filter.1 h).1

/-- Without one record the system can be kept. -/
def blamed (N : Int) (bs : List Bd) (r : Int) : Bool := (openedP N (withoutP bs [r])).isSome

set_option maxHeartbeats 400000 in
theorem blame1_any (w : World) (N : Int) (a : Option Addr) (cap : Nat) (bs : List Bd) (r : Int) (bl : Nat) (n0 : 1 ≤ N) (n1 : N ≤ 128) (hl : bs.length ≤ 2000) (hs : SliceOk a bs.length cap) (h : BoundsAt w a bs) (hv : ∀ b ∈ bs, b.valid N)
    (hc : w.heap[bl]? = some (.cells #[.int .i64 N, .slice a bs.length cap] 24 (0,0))) :
    Calls Tryz.prog 51 #[.int .i64 r, .pointer (some ⟨bl, 0, none⟩)] w fun e w' => e = .returned (.bool (!blamed N bs r)) ∧ Below w.heap.size w w' := by
  have c0 : w.cell? ⟨bl, 0, none⟩ = some (.int .i64 N) := by rw [cell_of_row _ _ _ _ _ _ hc]; rfl
  have c1 : w.cell? ⟨bl, 1, none⟩ = some (.slice a bs.length cap) := by rw [cell_of_row _ _ _ _ _ _ hc]; rfl
  have hwo := without_any (w.alloc (.cells #[.int .i64 r] 3)) N a cap bs (some ⟨w.heap.size, 0, none⟩) 1 [r] (by omega) hs (h.alloc _) (by simp) (ints_one w r)
  have HWO : Hid (Calls Tryz.prog 52 #[.agg #[.int .i64 N, .slice a bs.length cap], .slice (some ⟨w.heap.size, 0, none⟩) 1 1] (w.alloc (.cells #[.int .i64 r] 3)) _) := hidE hwo
  have hbl := lt_of_block hc
  have HV := hidE hv
  clear hwo h hc hs hv
  go_enter Tryz.func51, Tryz.ntmps51
  go_wp2_with fail
  refine HWO.out.mono ?_
  rintro e w1 ⟨v, rfl, ho, hb1⟩
  obtain ⟨o, cp, rfl, hba, _⟩ := boundsAt_of_out ho
  have B1 : Below w.heap.size w w1 := ((Below.refl w.heap.size w).alloc (Nat.le_refl _) (.cells #[.int .i64 r] 3)).trans (hb1.mono (by simp))
  have hlen := withoutP_len bs [r]
  have hop := opened_any w1 N o cp (withoutP bs [r]) n0 n1 (by omega) hba (fun b hb => HV.out b (withoutP_mem hb))
  have hd : blamed N bs r = (openedP N (withoutP bs [r])).isSome := rfl
  obtain ⟨q, hq⟩ : ∃ q, openedP N (withoutP bs [r]) = q := ⟨_, rfl⟩
  rw [hq] at hop hd
  have HOP := hidE hop
  have HD := hidE hd
  have HB1 := hidE B1
  clear hop hd hq B1 hb1 ho hba
  go_wp2_with fail
  refine HOP.out.mono ?_
  rintro e w2 ⟨hp, hb2⟩
  have HB2 := hidE (HB1.out.trans (hb2.mono HB1.out.size))
  clear hb2
  cases q with
  | none =>
    simp only [OpenedPost] at hp
    subst hp
    go_wp2_with fail
    go_ret
    exact ⟨by rw [HD.out]; rfl, HB2.out⟩
  | some t =>
    obtain ⟨b, rfl, _, _⟩ := hp
    go_wp2_with fail
    go_ret
    exact ⟨by rw [HD.out]; rfl, HB2.out⟩

def blameE (N : Int) (bs : List Bd) : List Int × Int :=
  if checkP N bs = 0 then (if (openedP N bs).isSome then ([], 0) else ((recordsP bs).filter (blamed N bs), 0)) else ([], checkP N bs)

theorem recordsP_len (bs : List Bd) : (recordsP bs).length ≤ bs.length := by
  unfold recordsP
  have := Lib.compact_length_le (sortP (rcds bs))
  have := sortP_length (rcds bs)
  have := rcds_len bs
  omega

theorem filter_nn (l : List Int) (p : Int → Bool) : l.filter (fun x => !!p x) = l.filter p := by simp

set_option maxHeartbeats 1000000 in
theorem blame_any (w : World) (N : Int) (a : Option Addr) (cap : Nat) (bs : List Bd) (hN : i64ok N) (hl : bs.length ≤ 9223372036854775807) (hs : SliceOk a bs.length cap) (h : BoundsAt w a bs) :
    Calls Tryz.prog 19 #[.agg #[.int .i64 N, .slice a bs.length cap]] w fun e w' => PathPost (blameE N bs).1 (blameE N bs).2 w.heap.size e w' ∧ Below w.heap.size w w' := by
  have hB0 : Below w.heap.size w (w.alloc (.cells #[.int .i64 N, .slice a bs.length cap] 24)) := (Below.refl _ _).alloc (Nat.le_refl _) _
  have hco := consistent_any (w.alloc (.cells #[.int .i64 N, .slice a bs.length cap] 24)) N a cap bs hN hl (h.alloc _)
  by_cases hc : checkP N bs = 0
  · obtain ⟨n0, n1, n2, nv⟩ := checkP_zero hc
    have hce : consistentE N bs = ((openedP N bs).isSome, 0) := by unfold consistentE; rw [if_pos hc]
    rw [hce] at hco
    cases hok : (openedP N bs).isSome with
    | true =>
      rw [hok] at hco
      have hd : blameE N bs = ([], 0) := by unfold blameE; rw [if_pos hc, if_pos hok]
      have HCO := hidE hco
      have HD := hidE hd
      clear hco hd hce hc hok h hs nv hN
      go_enter Tryz.func19, Tryz.ntmps19
      go_wp2_with fail
      refine HCO.out.mono ?_
      rintro e w1 ⟨rfl, hb1⟩
      go_wp2_with fail
      go_ret2
      refine ⟨?_, hB0.trans (hb1.mono hB0.size)⟩
      rw [HD.out]
      exact ⟨_, rfl, World.ownsRow_nil _ _ _ _⟩
    | false =>
      rw [hok] at hco
      have hd : blameE N bs = ((recordsP bs).filter (blamed N bs), 0) := by unfold blameE; rw [if_pos hc, if_neg (by rw [hok]; simp)]
      have HCO := hidE hco
      have HD := hidE hd
      have H := hidE h
      have HS := hidE hs
      have NV := hidE nv
      clear hco hd hce hc hok h hs nv hN
      go_enter Tryz.func19, Tryz.ntmps19
      go_wp2_with fail
      refine HCO.out.mono ?_
      rintro e w1 ⟨rfl, hb1⟩
      have hbx := blk_below hb1 (by simp) (heap_alloc_new w (.cells #[.int .i64 N, .slice a bs.length cap] 24))
      have e1 : w1.cell? ⟨w.heap.size, 1, none⟩ = some (.slice a bs.length cap) := by rw [cell_of_row _ _ _ _ _ _ hbx]; rfl
      have B1 := hB0.trans (hb1.mono hB0.size)
      have hrec := records_any w1 a cap bs (by omega) (H.out.below B1 (Nat.le_refl _))
      have HREC := hidE hrec
      have HBX := hidE hbx
      have HB1 := hidE B1
      clear hrec hbx B1 hb1
      go_wp2_with fail
      refine HREC.out.mono ?_
      rintro e w2 ⟨v, rfl, ho, hb2⟩
      have hrl := recordsP_len bs
      have hdel := deleteInts_any w2 w1.heap.size v (recordsP bs) 51 #[.pointer (some ⟨w.heap.size, 0, none⟩)] (· < w1.heap.size) (fun r => !blamed N bs r) (by omega) ho hb2.size (fun b hb => hb)
        (fun k hk W hkp => by
          have hk0 : ∀ b, b < w1.heap.size → W.heap[b]? = w1.heap[b]? := fun b hb => (hkp.same b hb).trans (hb2.block b hb)
          have hsz : w1.heap.size ≤ W.heap.size := Nat.le_trans hb2.size hkp.size
          refine blame1_any W N a cap bs (recordsP bs)[k] w.heap.size n0 n1 n2 HS.out ?_ (fun b hb => (NV.out b hb).1) ((hk0 _ (lt_of_block HBX.out)).trans HBX.out)
          have hw1 := H.out.below HB1.out (Nat.le_refl _)
          rcases hw1 with e | ⟨b, off, e, hb, hcs⟩
          · exact .inl e
          · refine .inr ⟨b, off, e, Nat.lt_of_lt_of_le hb hsz, fun i hi => ?_⟩
            obtain ⟨h0, h1, h2, h3⟩ := hcs i hi
            exact ⟨(World.cell?_of_block (w := w1) (hk0 b hb)).trans h0, (World.cell?_of_block (w := w1) (hk0 b hb)).trans h1, (World.cell?_of_block (w := w1) (hk0 b hb)).trans h2, (World.cell?_of_block (w := w1) (hk0 b hb)).trans h3⟩)
        (enters_of Tryz.func51 (by kernel_rfl) rfl)
      rw [filter_nn] at hdel
      have HDEL := hidE hdel
      have HB2 := hidE hb2
      clear hdel ho hb2
      go_wp2_with fail
      refine HDEL.out.mono ?_
      rintro e w3 ⟨v3, rfl, ho3, hb3⟩
      have HO3 := hidE ho3
      have HB3 := hidE hb3
      clear ho3 hb3
      go_wp2_with fail
      go_ret2
      refine ⟨?_, (HB1.out.trans (HB2.out.mono HB1.out.size)).trans (HB3.out.mono HB1.out.size)⟩
      rw [HD.out]
      exact ⟨_, rfl, ownsRow_base HO3.out HB1.out.size⟩
  · have hce : consistentE N bs = (false, checkP N bs) := by unfold consistentE; rw [if_neg hc]
    have hd : blameE N bs = ([], checkP N bs) := by unfold blameE; rw [if_neg hc]
    obtain ⟨c, hcc⟩ : ∃ c, checkP N bs = c := ⟨_, rfl⟩
    rw [hcc] at hce hd hc
    rw [hce] at hco
    have hc1 : (c == 0) = false := by simpa using hc
    have hc2 : (c != 0) = true := by simpa using hc
    have HCO := hidE hco
    have HD := hidE hd
    clear hco hd hce hc h hs hN hcc
    go_enter Tryz.func19, Tryz.ntmps19
    go_wp2_with fail
    refine HCO.out.mono ?_
    rintro e w1 ⟨rfl, hb1⟩
    go_wp2_with fail
    go_ret2
    refine ⟨?_, hB0.trans (hb1.mono hB0.size)⟩
    rw [HD.out]
    exact ⟨_, rfl, World.ownsRow_nil _ _ _ _⟩

end Go.Proofs.YthcmjhellpjllaaGreat

/- Walks: slices.Grow at nil and slices.Concat of two lists, at []int and []Bound. -/
namespace Go.Proofs.YthcmjhellpjllaaGreat
open Go Go.RowKit Go.Shelf

theorem run_append_nil (w : World) (base : Nat) (t ty e : TypeId) (i : TypeInfo) (size : Nat) (ht : Tryz.prog.underlying t = some (.slice e)) (hi : Tryz.prog.info? e = some i)
    (v : Value) (n : Nat) (xs : List Value) (hown : w.ownsRow base e size v n xs) (c : Nat) : (Builtin.append_ #[t, t] ty #[v, .slice none 0 c]).run Tryz.prog w = .ok v w := by
  rcases hown.2 with ⟨rfl, rfl⟩ | ⟨g, cap, cur, rfl, _, _, hnc, _⟩
  · simp [Builtin.append_, run_underlying ht, sizeOf, typeInfo, hi, Builtin.lenOf, Builtin.firstCells]
  · simp [Builtin.append_, run_underlying ht, sizeOf, typeInfo, hi, Builtin.lenOf, Builtin.firstCells, hnc, storeCells]

theorem intsV_oneV (l : List Int) : ∀ u ∈ intsV l, u.oneCell' = true := by intro u hu; simp [intsV] at hu; obtain ⟨q, _, rfl⟩ := hu; rfl
theorem intsAt_news {w : World} {b off : Nat} {l : List Int} (h : ∀ i (hi : i < l.length), w.cell? ⟨b, off + i, none⟩ = some (.int .i64 l[i])) : ∀ j u, (intsV l)[j]? = some u → w.cell? ((⟨b, off, none⟩ : Addr).add j) = some u := by
  intro j u hj
  rw [show ((⟨b, off, none⟩ : Addr).add j) = ⟨b, off + j, none⟩ from by unfold Addr.add; split <;> simp_all]
  have hlt : j < l.length := by have := (List.getElem?_eq_some_iff.1 hj).1; simpa [intsV] using this
  rw [h j hlt]
  simpa [intsV, hlt] using hj
theorem flat_cat (a b : List Bd) : flat (a ++ b) = flat a ++ flat b := flat_append a b
theorem intsV_cat (a b : List Int) : intsV (a ++ b) = intsV a ++ intsV b := by simp [intsV]

theorem run_op_append2 {P : Program} {o : Oper} {a : Act} {w w' : World} {s x : Operand} {t u : TypeId} {vs vx v : Value} (hop : o.op = Op.call { callee := Callee.builtin Builtin.append, args := #[s, x], argTypes := #[t, u] })
    (hs : a.eval s = vs) (hx : a.eval x = vx) (hrun : (Builtin.append_ #[t, u] o.type #[vs, vx]).run P w = .ok v w') : (execOp a.eval o).run P w = .ok (.value v) w' := by
  simp [execOp, hop, resolve, invoke, builtin, hs, hx, hrun, Result.andThen]
theorem wpList_op_grow {P : Program} {ops : Array Oper} {rest : List Oper} {o : Oper} {a : Act} {w : World} {Q : Exit → Act → World → Prop} (hg : o.guard = none) {w' : World} {s x : Operand} {t u : TypeId} {vs vx v : Value}
    (hop : o.op = Op.call { callee := Callee.builtin Builtin.append, args := #[s, x], argTypes := #[t, u] }) (hs : a.eval s = vs) (hx : a.eval x = vx) (hrun : (Builtin.append_ #[t, u] o.type #[vs, vx]).run P w = .ok v w')
    (h : wpList P ops Q rest (a.put o.dst v) w') : wpList P ops Q (o :: rest) a w :=
  wpList_plain hg fun K hK => by
    unfold Oper.wp
    rw [run_op_append2 hop hs hx hrun]
    exact hK _ _ h

theorem append_ints (w : World) (base : Nat) (v : Value) (xs : List Int) (hown : w.ownsRow base 3 1 v xs.length (intsV xs)) (a : Option Addr) (cap : Nat) (l : List Int) (h : IntsAt w a l) (hx : xs.length ≤ 100000) (hl : l.length ≤ 100000) (hb : base ≤ w.heap.size) (ty : TypeId) :
    ∃ v' w', (Builtin.append_ #[35, 35] ty #[v, .slice a l.length cap]).run Tryz.prog w = .ok v' w' ∧ w'.ownsRow base 3 1 v' (xs ++ l).length (intsV (xs ++ l)) ∧ Below base w w' := by
  obtain ⟨i0, hi, hz0, hz1, hz2⟩ := info_parts info3
  cases a with
  | none =>
    have hl0 : l = [] := by rcases h with e | ⟨b, off, e, _⟩; exact e; cases e
    subst hl0
    exact ⟨v, w, run_append_nil w base 35 ty 3 i0 1 Tryz.underlying35 hi v _ _ hown cap, by simpa using hown, Below.refl _ _⟩
  | some ad =>
    have hnews : ∀ j u, (intsV l)[j]? = some u → w.cell? (ad.add j) = some u := by
      rcases h with e | ⟨b, off, e, _, hc⟩
      · subst e; intro j u hj; simp [intsV] at hj
      · cases e; exact intsAt_news hc
    obtain ⟨v', w', hrun, h2, h3, _, h5⟩ := run_append_own_at (P := Tryz.prog) w base 35 ty 3 i0 _ 1 8 Tryz.underlying35 hi hz0 hz1 hz2 rfl (by decide) v _ _ hown ad l.length cap (intsV l) (by simp [intsV]) hnews (intsV_oneV l) (by unfold maxLen; omega) (by omega) hb
    refine ⟨v', w', hrun, by rw [List.length_append, intsV_cat]; exact h2, (Below.refl base w).grown h3 hb (fun q e => ?_)⟩
    rcases hown.2 with ⟨e1, _⟩ | ⟨g1, cp', cu, e1, hge, hh, _⟩
    · rw [e1] at e; simp [Value.ownBlock] at e
    · rw [e1] at e
      simp only [Value.ownBlock, Option.some.injEq] at e
      omega

set_option maxRecDepth 100000 in
set_option maxHeartbeats 400000 in
theorem grow_ints (w : World) (n : Nat) (hn : n ≤ 200000) : Calls Tryz.prog 68 #[.slice none 0 0, .int .i64 (n : Int)] w fun e w' => ∃ v, e = .returned v ∧ w'.ownsRow w.heap.size 3 1 v 0 [] ∧ Below w.heap.size w w' := by
  by_cases h0 : n = 0
  · subst h0
    have h1 : ¬ (((0 : Nat) : Int) < 0) := by omega
    go_enter Tryz.func68, Tryz.ntmps68
    go_wp2_with fail
    go_ret
    exact ⟨_, rfl, World.ownsRow_nil _ _ _ _, Below.refl _ _⟩
  · obtain ⟨i0, hi, hz0, hz1, hz2⟩ := info_parts info3
    have hrz : ∀ ty, ∃ G C, (Builtin.append_ #[35, 3] ty #[.slice none 0 0, .int .i64 (n : Int)]).run Tryz.prog w = .ok (.slice (some ⟨w.heap.size, 0, none⟩) n G) (w.drew.alloc (.cells C 3)) ∧ n ≤ G ∧ G ≤ maxLen ∧ C.size = G * 1 := by
      intro ty
      have h := Lib.run_append_grow_zeros w 35 3 ty 3 i0 _ .i64 .i64 Tryz.underlying35 Tryz.underlying3 hi hz0 none 0 0 [] (run_firstCells_none w.drew i0.size 0 0 0) n (by omega) (by omega) (by omega) (by omega) (by rw [hz2]; omega)
        (by rw [Nat.zero_add]; exact growslice_fits (by omega) (by rw [hz2]; omega))
      rw [Nat.zero_add] at h
      exact ⟨_, _, h, grownCap_ge _ _ _ _, grownCap_le_maxLen _ _ _ _ (by unfold maxLen; omega), by
        have := grownCap_ge w n 0 3
        simp only [Array.size_append, size_zeroCells, Value.cells]
        simp
        omega⟩
    obtain ⟨G, C, hrun, hG1, hG2, hCs⟩ := hrz 35
    have n0 : ¬ ((n : Int) < 0) := by omega
    have n1 : ((n : Int) > 0) := by omega
    have HRUN := hidE hrun
    have g63 : G ≤ 9223372036854775807 := by unfold maxLen at hG2; omega
    clear hrun hrz
    go_enter Tryz.func68, Tryz.ntmps68
    go_wp2_with (at_builtin; refine wpList_op_grow rfl (s := .tmp 20) (x := .tmp 21) (t := 35) (u := 3) rfl rfl rfl HRUN.out ?_)
    go_ret
    refine ⟨_, rfl, ⟨rfl, .inr ⟨w.heap.size, G, C, rfl, Nat.le_refl _, heap_alloc_new w.drew _, Nat.zero_le _, hG2, hCs, by simp⟩⟩, (Below.refl _ _).drew.alloc (Nat.le_refl _) _⟩

theorem append_bounds (w : World) (base : Nat) (v : Value) (xs : List Bd) (hown : w.ownsRow base 47 4 v xs.length (flat xs)) (a : Option Addr) (cap : Nat) (l : List Bd) (h : BoundsAt w a l) (hx : xs.length ≤ 100000) (hl : l.length ≤ 100000) (hb : base ≤ w.heap.size) (ty : TypeId) :
    ∃ v' w', (Builtin.append_ #[22, 22] ty #[v, .slice a l.length cap]).run Tryz.prog w = .ok v' w' ∧ w'.ownsRow base 47 4 v' (xs ++ l).length (flat (xs ++ l)) ∧ Below base w w' := by
  obtain ⟨i0, hi, hz0, hz1, hz2⟩ := info_parts Tryz.info47
  cases a with
  | none =>
    have hl0 : l = [] := by rcases h with e | ⟨b, off, e, _⟩; exact e; cases e
    subst hl0
    exact ⟨v, w, run_append_nil w base 22 ty 47 i0 4 Tryz.underlying22 hi v _ _ hown cap, by simpa using hown, Below.refl _ _⟩
  | some ad =>
    have hnews : ∀ j u, (flat l)[j]? = some u → w.cell? (ad.add j) = some u := by
      rcases h with e | ⟨b, off, e, _, hc⟩
      · subst e; intro j u hj; simp [flat] at hj
      · cases e; exact boundsAt_news hc
    obtain ⟨v', w', hrun, h2, h3, _, h5⟩ := run_append_own_at (P := Tryz.prog) w base 22 ty 47 i0 _ 4 32 Tryz.underlying22 hi hz0 hz1 hz2 rfl (by decide) v _ _ hown ad l.length cap (flat l) (by simp [flat_length]) hnews (flat_one l) (by unfold maxLen; omega) (by omega) hb
    refine ⟨v', w', hrun, by rw [List.length_append, flat_cat]; exact h2, (Below.refl base w).grown h3 hb (fun q e => ?_)⟩
    rcases hown.2 with ⟨e1, _⟩ | ⟨g1, cp', cu, e1, hge, hh, _⟩
    · rw [e1] at e; simp [Value.ownBlock] at e
    · rw [e1] at e
      simp only [Value.ownBlock, Option.some.injEq] at e
      omega

set_option maxRecDepth 100000 in
set_option maxHeartbeats 400000 in
theorem grow_bounds (w : World) (n : Nat) (hn : n ≤ 200000) : Calls Tryz.prog 67 #[.slice none 0 0, .int .i64 (n : Int)] w fun e w' => ∃ v, e = .returned v ∧ w'.ownsRow w.heap.size 47 4 v 0 [] ∧ Below w.heap.size w w' := by
  by_cases h0 : n = 0
  · subst h0
    have h1 : ¬ (((0 : Nat) : Int) < 0) := by omega
    go_enter Tryz.func67, Tryz.ntmps67
    go_wp2_with fail
    go_ret
    exact ⟨_, rfl, World.ownsRow_nil _ _ _ _, Below.refl _ _⟩
  · obtain ⟨i0, hi, hz0, hz1, hz2⟩ := info_parts Tryz.info47
    have hrz : ∀ ty, ∃ G C, (Builtin.append_ #[22, 3] ty #[.slice none 0 0, .int .i64 (n : Int)]).run Tryz.prog w = .ok (.slice (some ⟨w.heap.size, 0, none⟩) n G) (w.drew.alloc (.cells C 47)) ∧ n ≤ G ∧ G ≤ maxLen ∧ C.size = G * 4 := by
      intro ty
      have h := Lib.run_append_grow_zeros w 22 3 ty 47 i0 _ .i64 .i64 Tryz.underlying22 Tryz.underlying3 hi hz0 none 0 0 [] (run_firstCells_none w.drew i0.size 0 0 0) n (by omega) (by omega) (by omega) (by omega) (by rw [hz2]; omega)
        (by rw [Nat.zero_add]; exact growslice_fits (by omega) (by rw [hz2]; omega))
      rw [Nat.zero_add] at h
      exact ⟨_, _, h, grownCap_ge _ _ _ _, grownCap_le_maxLen _ _ _ _ (by unfold maxLen; omega), by
        have := grownCap_ge w n 0 47
        simp only [Array.size_append, size_zeroCells, Value.cells]
        simp
        omega⟩
    obtain ⟨G, C, hrun, hG1, hG2, hCs⟩ := hrz 22
    have n0 : ¬ ((n : Int) < 0) := by omega
    have n1 : ((n : Int) > 0) := by omega
    have HRUN := hidE hrun
    have g63 : G ≤ 9223372036854775807 := by unfold maxLen at hG2; omega
    clear hrun hrz
    go_enter Tryz.func67, Tryz.ntmps67
    go_wp2_with (at_builtin; refine wpList_op_grow rfl (s := .tmp 20) (x := .tmp 21) (t := 22) (u := 3) rfl rfl rfl HRUN.out ?_)
    go_ret
    refine ⟨_, rfl, ⟨rfl, .inr ⟨w.heap.size, G, C, rfl, Nat.le_refl _, heap_alloc_new w.drew _, Nat.zero_le _, hG2, hCs, by simp⟩⟩, (Below.refl _ _).drew.alloc (Nat.le_refl _) _⟩

end Go.Proofs.YthcmjhellpjllaaGreat

/- Walks: slices.Concat of two lists, at []int and []Bound. -/
namespace Go.Proofs.YthcmjhellpjllaaGreat
open Go Go.RowKit Go.Shelf

set_option maxRecDepth 100000 in
set_option maxHeartbeats 2000000 in
theorem concat_ints (w : World) (b cb : Nat) (a0 : Option Addr) (c0 : Nat) (l0 : List Int) (a1 : Option Addr) (c1 : Nat) (l1 : List Int) (h0 : IntsAt w a0 l0) (h1 : IntsAt w a1 l1) (hl0 : l0.length ≤ 50000) (hl1 : l1.length ≤ 50000)
    (hc : w.heap[b]? = some (.cells #[.slice a0 l0.length c0, .slice a1 l1.length c1] 35 (0,0))) :
    Calls Tryz.prog 48 #[.slice (some ⟨b, 0, none⟩) 2 cb] w fun e w' => ∃ v, e = .returned v ∧ w'.ownsRow w.heap.size 3 1 v (l0 ++ l1).length (intsV (l0 ++ l1)) ∧ Below w.heap.size w w' := by
  have d0 : w.cell? ⟨b, 0, none⟩ = some (.slice a0 l0.length c0) := by rw [cell_of_row _ _ _ _ _ _ hc]; rfl
  have d1 : w.cell? ⟨b, 1, none⟩ = some (.slice a1 l1.length c1) := by rw [cell_of_row _ _ _ _ _ _ hc]; rfl
  have hb := lt_of_block hc
  have H0 := hidE h0
  have H1 := hidE h1
  have HC := hidE hc
  clear h0 h1 hc
  go_enter Tryz.func48, Tryz.ntmps48
  go_wp2_with fail
  go_loop [3, 11] (fun n i => ∃ k : Nat, k ≤ 2 ∧ i = .int .i64 k ∧ n = .int .i64 ((if k = 0 then 0 else if k = 1 then l0.length else l0.length + l1.length : Nat) : Int)) (fun _ i => 2 - (intOf i).toNat)
  case atStart => exact ⟨0, by omega, rfl, rfl⟩
  case round =>
    obtain ⟨k, hk, rfl, rfl⟩ := hrel
    have hk3 : k = 0 ∨ k = 1 ∨ k = 2 := by omega
    rcases hk3 with rfl | rfl | rfl
    · have n0 : ¬ ((0 : Int) + (l0.length : Int) < 0) := by omega
      have n0' : ¬ ((l0.length : Int) < 0) := by omega
      go_wp2_with fail
      go_round
      case rel => exact ⟨1, by omega, rfl, by simp⟩
      case measure => simp [intOf]
    · have n0 : ¬ ((l0.length : Int) + (l1.length : Int) < 0) := by omega
      go_wp2_with fail
      go_round
      case rel => exact ⟨2, by omega, rfl, by simp⟩
      case measure => simp [intOf]
    · have hg := grow_ints w (l0.length + l1.length) (by omega)
      have HG := hidE hg
      clear hg
      go_wp2_with fail
      refine HG.out.mono ?_
      rintro e w1 ⟨v1, rfl, ho, hb1⟩
      have HO := hidE ho
      have HB := hidE hb1
      clear ho hb1
      go_wp2_with fail
      go_loopw [6, 27] (fun v i wr => ∃ k : Nat, k ≤ 2 ∧ i = .int .i64 k ∧ Hid (wr.ownsRow w.heap.size 3 1 v (if k = 0 then [] else if k = 1 then l0 else l0 ++ l1).length (intsV (if k = 0 then [] else if k = 1 then l0 else l0 ++ l1))) ∧ Below w.heap.size w wr) (fun _ i _ => 2 - (intOf i).toNat)
      case atStart => exact ⟨0, by omega, rfl, HO, HB.out⟩
      case round =>
        obtain ⟨k, hk, rfl, hown, hbl⟩ := hrel
        have hk3 : k = 0 ∨ k = 1 ∨ k = 2 := by omega
        rcases hk3 with rfl | rfl | rfl
        · have g0 : wr.cell? ⟨b, 0, none⟩ = some (.slice a0 l0.length c0) := (hbl.cell (by exact hb)).trans d0
          obtain ⟨v', wa, hrun, ho', hb'⟩ := append_ints wr w.heap.size u6 [] (by simpa using hown.out) a0 c0 l0 (H0.out.below hbl (Nat.le_refl _)) (by simp) (by omega) hbl.size 35
          have HR := hidE hrun
          have HO' := hidE ho'
          have HB' := hidE (hbl.trans hb')
          clear hrun ho' hb'
          go_wp2_with (at_builtin; refine wpList_op_append rfl (s := .tmp 31) (x := .tmp 32) (t := 35) rfl rfl rfl HR.out ?_)
          go_roundw
          case rel => exact ⟨1, by omega, rfl, hidE (by simpa using HO'.out), HB'.out⟩
          case measure => simp [intOf]
        · have g0 : wr.cell? ⟨b, 1, none⟩ = some (.slice a1 l1.length c1) := (hbl.cell (by exact hb)).trans d1
          obtain ⟨v', wa, hrun, ho', hb'⟩ := append_ints wr w.heap.size u6 l0 (by simpa using hown.out) a1 c1 l1 (H1.out.below hbl (Nat.le_refl _)) (by omega) (by omega) hbl.size 35
          have HR := hidE hrun
          have HO' := hidE ho'
          have HB' := hidE (hbl.trans hb')
          clear hrun ho' hb'
          go_wp2_with (at_builtin; refine wpList_op_append rfl (s := .tmp 31) (x := .tmp 32) (t := 35) rfl rfl rfl HR.out ?_)
          go_roundw
          case rel => exact ⟨2, by omega, rfl, hidE (by simpa using HO'.out), HB'.out⟩
          case measure => simp [intOf]
        · go_wp2_with fail
          go_ret
          exact ⟨_, rfl, by simpa using hown.out, hbl⟩

set_option maxRecDepth 100000 in
set_option maxHeartbeats 2000000 in
theorem concat_bounds (w : World) (b cb : Nat) (a0 : Option Addr) (c0 : Nat) (l0 : List Bd) (a1 : Option Addr) (c1 : Nat) (l1 : List Bd) (h0 : BoundsAt w a0 l0) (h1 : BoundsAt w a1 l1) (hl0 : l0.length ≤ 50000) (hl1 : l1.length ≤ 50000)
    (hc : w.heap[b]? = some (.cells #[.slice a0 l0.length c0, .slice a1 l1.length c1] 22 (0,0))) :
    Calls Tryz.prog 41 #[.slice (some ⟨b, 0, none⟩) 2 cb] w fun e w' => ∃ v, e = .returned v ∧ w'.ownsRow w.heap.size 47 4 v (l0 ++ l1).length (flat (l0 ++ l1)) ∧ Below w.heap.size w w' := by
  have d0 : w.cell? ⟨b, 0, none⟩ = some (.slice a0 l0.length c0) := by rw [cell_of_row _ _ _ _ _ _ hc]; rfl
  have d1 : w.cell? ⟨b, 1, none⟩ = some (.slice a1 l1.length c1) := by rw [cell_of_row _ _ _ _ _ _ hc]; rfl
  have hb := lt_of_block hc
  have H0 := hidE h0
  have H1 := hidE h1
  have HC := hidE hc
  clear h0 h1 hc
  go_enter Tryz.func41, Tryz.ntmps41
  go_wp2_with fail
  go_loop [3, 11] (fun n i => ∃ k : Nat, k ≤ 2 ∧ i = .int .i64 k ∧ n = .int .i64 ((if k = 0 then 0 else if k = 1 then l0.length else l0.length + l1.length : Nat) : Int)) (fun _ i => 2 - (intOf i).toNat)
  case atStart => exact ⟨0, by omega, rfl, rfl⟩
  case round =>
    obtain ⟨k, hk, rfl, rfl⟩ := hrel
    have hk3 : k = 0 ∨ k = 1 ∨ k = 2 := by omega
    rcases hk3 with rfl | rfl | rfl
    · have n0 : ¬ ((0 : Int) + (l0.length : Int) < 0) := by omega
      have n0' : ¬ ((l0.length : Int) < 0) := by omega
      go_wp2_with fail
      go_round
      case rel => exact ⟨1, by omega, rfl, by simp⟩
      case measure => simp [intOf]
    · have n0 : ¬ ((l0.length : Int) + (l1.length : Int) < 0) := by omega
      go_wp2_with fail
      go_round
      case rel => exact ⟨2, by omega, rfl, by simp⟩
      case measure => simp [intOf]
    · have hg := grow_bounds w (l0.length + l1.length) (by omega)
      have HG := hidE hg
      clear hg
      go_wp2_with fail
      refine HG.out.mono ?_
      rintro e w1 ⟨v1, rfl, ho, hb1⟩
      have HO := hidE ho
      have HB := hidE hb1
      clear ho hb1
      go_wp2_with fail
      go_loopw [6, 27] (fun v i wr => ∃ k : Nat, k ≤ 2 ∧ i = .int .i64 k ∧ Hid (wr.ownsRow w.heap.size 47 4 v (if k = 0 then [] else if k = 1 then l0 else l0 ++ l1).length (flat (if k = 0 then [] else if k = 1 then l0 else l0 ++ l1))) ∧ Below w.heap.size w wr) (fun _ i _ => 2 - (intOf i).toNat)
      case atStart => exact ⟨0, by omega, rfl, HO, HB.out⟩
      case round =>
        obtain ⟨k, hk, rfl, hown, hbl⟩ := hrel
        have hk3 : k = 0 ∨ k = 1 ∨ k = 2 := by omega
        rcases hk3 with rfl | rfl | rfl
        · have g0 : wr.cell? ⟨b, 0, none⟩ = some (.slice a0 l0.length c0) := (hbl.cell (by exact hb)).trans d0
          obtain ⟨v', wa, hrun, ho', hb'⟩ := append_bounds wr w.heap.size u6 [] (by simpa using hown.out) a0 c0 l0 (H0.out.below hbl (Nat.le_refl _)) (by simp) (by omega) hbl.size 22
          have HR := hidE hrun
          have HO' := hidE ho'
          have HB' := hidE (hbl.trans hb')
          clear hrun ho' hb'
          go_wp2_with (at_builtin; refine wpList_op_append rfl (s := .tmp 31) (x := .tmp 32) (t := 22) rfl rfl rfl HR.out ?_)
          go_roundw
          case rel => exact ⟨1, by omega, rfl, hidE (by simpa using HO'.out), HB'.out⟩
          case measure => simp [intOf]
        · have g0 : wr.cell? ⟨b, 1, none⟩ = some (.slice a1 l1.length c1) := (hbl.cell (by exact hb)).trans d1
          obtain ⟨v', wa, hrun, ho', hb'⟩ := append_bounds wr w.heap.size u6 l0 (by simpa using hown.out) a1 c1 l1 (H1.out.below hbl (Nat.le_refl _)) (by omega) (by omega) hbl.size 22
          have HR := hidE hrun
          have HO' := hidE ho'
          have HB' := hidE (hbl.trans hb')
          clear hrun ho' hb'
          go_wp2_with (at_builtin; refine wpList_op_append rfl (s := .tmp 31) (x := .tmp 32) (t := 22) rfl rfl rfl HR.out ?_)
          go_roundw
          case rel => exact ⟨2, by omega, rfl, hidE (by simpa using HO'.out), HB'.out⟩
          case measure => simp [intOf]
        · go_wp2_with fail
          go_ret
          exact ⟨_, rfl, by simpa using hown.out, hbl⟩

end Go.Proofs.YthcmjhellpjllaaGreat

/- Walks: Through. -/
namespace Go.Proofs.YthcmjhellpjllaaGreat
open Go Go.RowKit Go.Shelf

/-- The system with one value fixed. -/
def throughX (bs : List Bd) (p v : Int) : List Bd := if p = 0 then bs else bs ++ [⟨0, p, v, 0⟩, ⟨p, 0, -v, 0⟩]
def throughE (N : Int) (bs : List Bd) (p v : Int) : List Int × Bool × Int :=
  if checkP N bs ≠ 0 then ([], false, checkP N bs) else if pointP N [p] ≠ 0 then ([], false, pointP N [p]) else if inR v (-1000000) 1000000 = false then ([], false, 1)
  else if p = 0 ∧ v ≠ 0 then ([], false, 0) else if (openedP N (throughX bs p v)).isSome = true then (valuesP N.toNat (throughX bs p v), true, 0) else ([], false, 0)

def ThroughPost (l : List Int) (ok : Bool) (err : Int) (base : Nat) (e : Ending) (w' : World) : Prop := ∃ v, e = .returned (.tuple #[v, .bool ok, .int .i64 err]) ∧ w'.ownsRow base 3 1 v l.length (intsV l)

/-- The end: the net opened, values found. -/
theorem through_net (W : World) (N : Int) (R : Nat) (o : Option Addr) (cap : Nat) (xs : List Bd) (hN : N = R) (n0 : 1 ≤ R) (n1 : R ≤ 128) (hl : xs.length ≤ 2002) (hv : AllValid R xs) (h : BoundsAt W o xs) :
    Calls Tryz.prog 42 #[.agg #[.int .i64 N, .slice o xs.length cap]] W fun e w' => Below W.heap.size W w' ∧
      match openedP N xs with
      | none => e = .returned (.tuple #[.pointer none, .bool false])
      | some _ => ∃ b, e = .returned (.tuple #[.pointer (some ⟨b, 0, none⟩), .bool true]) ∧ Calls Tryz.prog 38 #[.pointer (some ⟨b, 0, none⟩)] w' fun e w'' => IntsOut (valuesP R xs) w'.heap.size e w'' ∧ Below w'.heap.size w' w'' := by
  subst hN
  refine (opened_any W R o cap xs (by omega) (by omega) (by omega) h hv).mono fun e w' ⟨hp, hb⟩ => ⟨hb, ?_⟩
  cases ho : openedP R xs with
  | none => rw [ho] at hp; exact hp
  | some t =>
    rw [ho] at hp
    obtain ⟨b, he, hbb, hcell⟩ := hp
    have HO := netOk_of_opened n0 n1 hl hv ho
    have hs := some_any w' b R o cap xs t HO (h.below hb (Nat.le_refl _)) hcell
    refine ⟨b, he, ?_⟩
    have e1 : valuesP R xs = someP R (tableP R t xs) := by unfold valuesP; rw [heightsP_of ho]
    rw [e1]; exact hs

theorem throughX_valid {R : Nat} {bs : List Bd} {p v : Int} (h0 : 1 ≤ R) (hv : AllValid R bs) (p0 : 0 ≤ p) (p1 : p < R) (v0 : -1000000 ≤ v) (v1 : v ≤ 1000000) : AllValid R (throughX bs p v) := by
  unfold throughX
  split
  · exact hv
  · intro b hb
    rcases List.mem_append.1 hb with hb | hb
    · exact hv b hb
    · simp only [List.mem_cons, List.not_mem_nil, or_false] at hb
      rcases hb with rfl | rfl
      · exact ⟨by show (0 : Int) ≤ 0; omega, by show (0 : Int) < R; omega, p0, p1, v0, v1⟩
      · exact ⟨p0, p1, by show (0 : Int) ≤ 0; omega, by show (0 : Int) < R; omega, by show -1000000 ≤ -v; omega, by show -v ≤ 1000000; omega⟩
theorem throughX_len (bs : List Bd) (p v : Int) : (throughX bs p v).length ≤ bs.length + 2 := by unfold throughX; split <;> simp

set_option maxRecDepth 100000 in
set_option maxHeartbeats 4000000 in
theorem through_any (w : World) (N : Int) (a : Option Addr) (cap : Nat) (bs : List Bd) (p v : Int) (hN : i64ok N) (hl : bs.length ≤ 9223372036854775807) (h : BoundsAt w a bs) :
    Calls Tryz.prog 15 #[.agg #[.int .i64 N, .slice a bs.length cap], .int .i64 p, .int .i64 v] w fun e w' => ThroughPost (throughE N bs p v).1 (throughE N bs p v).2.1 (throughE N bs p v).2.2 w.heap.size e w' ∧ Below w.heap.size w w' := by
  have H := hidE h
  have hB0 : Below w.heap.size w (w.alloc (.cells #[.int .i64 N, .slice a bs.length cap] 24)) := (Below.refl _ _).alloc (Nat.le_refl _) _
  have hck := check_any (w.alloc (.cells #[.int .i64 N, .slice a bs.length cap] 24)) N a cap bs hN hl (h.alloc _)
  clear h
  by_cases hc : checkP N bs = 0
  · obtain ⟨n0, n1, n2, nv⟩ := checkP_zero hc
    rw [hc] at hck
    have HCK := hidE hck
    have NV := hidE nv
    have HC0 := hidE hc
    clear hck nv hc hN
    by_cases hp : pointP N [p] = 0
    · have hpr := pointP_zero hp p (by simp)
      have HP := hidE hp
      clear hp
      by_cases hr : inR v (-1000000) 1000000 = true
      · have hvr := inR_true.1 hr
        have HR := hidE hr
        clear hr
        by_cases hz : p = 0 ∧ v ≠ 0
        · have hd : throughE N bs p v = ([], false, 0) := by unfold throughE; rw [if_neg (by rw [HC0.out]; simp), if_neg (by rw [HP.out]; simp), if_neg (by rw [HR.out]; simp), if_pos hz]
          have HD := hidE hd
          obtain ⟨rfl, hz2⟩ := hz
          have hz3 : (v != 0) = true := by simpa using hz2
          clear hd hz2
          go_enter Tryz.func15, Tryz.ntmps15
          go_wp2_with fail
          refine HCK.out.mono ?_
          rintro e w1 ⟨rfl, hb1⟩
          have hbx := blk_below hb1 (by simp) (heap_alloc_new w (.cells #[.int .i64 N, .slice a bs.length cap] 24))
          have c0 : w1.cell? ⟨w.heap.size, 0, none⟩ = some (.int .i64 N) := by rw [cell_of_row _ _ _ _ _ _ hbx]; rfl
          have c1 : w1.cell? ⟨w.heap.size, 1, none⟩ = some (.slice a bs.length cap) := by rw [cell_of_row _ _ _ _ _ _ hbx]; rfl
          have l1 := lt_of_block hbx
          have HB1 := hidE (hB0.trans (hb1.mono hB0.size))
          have HBX := hidE hbx
          clear hbx hb1
          go_wp2_with fail
          have hpt : Calls Tryz.prog 40 #[.agg #[.int .i64 N, .slice a bs.length cap], .slice (some ⟨w1.heap.size, 0, none⟩) 1 1] (w1.alloc (.cells #[.int .i64 0] 3)) _ := point_any _ N (.slice a bs.length cap) (some ⟨w1.heap.size, 0, none⟩) 1 [0] n0 n1 (by simp) (ints_one w1 0)
          rw [HP.out] at hpt
          refine hpt.mono ?_
          rintro e w2 ⟨rfl, hb2⟩
          have hbx2 := blk_below hb2 (by simp; omega) ((Below.heap_alloc w1 (.cells #[.int .i64 0] 3) _ l1).trans HBX.out)
          have e0 : w2.cell? ⟨w.heap.size, 0, none⟩ = some (.int .i64 N) := by rw [cell_of_row _ _ _ _ _ _ hbx2]; rfl
          have e1 : w2.cell? ⟨w.heap.size, 1, none⟩ = some (.slice a bs.length cap) := by rw [cell_of_row _ _ _ _ _ _ hbx2]; rfl
          have l2 := lt_of_block hbx2
          have HB2 := hidE ((HB1.out.alloc HB1.out.size (.cells #[.int .i64 0] 3)).trans (hb2.mono (by have := HB1.out.size; simp; omega)))
          have HBX2 := hidE hbx2
          clear hbx2 hb2 c0 c1 hpt
          go_wp2_with (go_at_call 23; refine (within_any _ _ _ _).mono ?_; rw [HR.out]; rintro e w' ⟨rfl, rfl⟩)
          go_ret3
          refine ⟨?_, HB2.out.alloc HB2.out.size _⟩
          rw [HD.out]
          exact ⟨_, rfl, World.ownsRow_nil _ _ _ _⟩
        · by_cases hp0 : p = 0
          · subst hp0
            have hv0 : v = 0 := by omega
            subst hv0
            obtain ⟨R, rfl⟩ := Int.eq_ofNat_of_zero_le (show 0 ≤ N by omega)
            have hx : throughX bs 0 0 = bs := by unfold throughX; rw [if_pos rfl]
            obtain ⟨q, hq⟩ : ∃ q, openedP R bs = q := ⟨_, rfl⟩
            have hd : throughE R bs 0 0 = if q.isSome = true then (valuesP R bs, true, 0) else ([], false, 0) := by unfold throughE; rw [if_neg (by rw [HC0.out]; simp), if_neg (by rw [HP.out]; simp), if_neg (by rw [HR.out]; simp), if_neg (by simp), hx, hq]; simp
            have HD := hidE hd
            have HQ := hidE hq
            have z1 : ((0 : Int) != 0) = false := by decide
            have z2 : ((0 : Int) == 0) = true := by decide
            clear hd hz hx hq
            go_enter Tryz.func15, Tryz.ntmps15
            go_wp2_with fail
            refine HCK.out.mono ?_
            rintro e w1 ⟨rfl, hb1⟩
            have hbx := blk_below hb1 (by simp) (heap_alloc_new w (.cells #[.int .i64 (R : Int), .slice a bs.length cap] 24))
            have c0 : w1.cell? ⟨w.heap.size, 0, none⟩ = some (.int .i64 (R : Int)) := by rw [cell_of_row _ _ _ _ _ _ hbx]; rfl
            have c1 : w1.cell? ⟨w.heap.size, 1, none⟩ = some (.slice a bs.length cap) := by rw [cell_of_row _ _ _ _ _ _ hbx]; rfl
            have l1 := lt_of_block hbx
            have HB1 := hidE (hB0.trans (hb1.mono hB0.size))
            have HBX := hidE hbx
            clear hbx hb1
            go_wp2_with fail
            have hpt : Calls Tryz.prog 40 #[.agg #[.int .i64 (R : Int), .slice a bs.length cap], .slice (some ⟨w1.heap.size, 0, none⟩) 1 1] (w1.alloc (.cells #[.int .i64 0] 3)) _ := point_any _ (R : Int) (.slice a bs.length cap) (some ⟨w1.heap.size, 0, none⟩) 1 [0] n0 n1 (by simp) (ints_one w1 0)
            rw [HP.out] at hpt
            refine hpt.mono ?_
            rintro e w2 ⟨rfl, hb2⟩
            have hbx2 := blk_below hb2 (by simp; omega) ((Below.heap_alloc w1 (.cells #[.int .i64 0] 3) _ l1).trans HBX.out)
            have e0 : w2.cell? ⟨w.heap.size, 0, none⟩ = some (.int .i64 (R : Int)) := by rw [cell_of_row _ _ _ _ _ _ hbx2]; rfl
            have e1 : w2.cell? ⟨w.heap.size, 1, none⟩ = some (.slice a bs.length cap) := by rw [cell_of_row _ _ _ _ _ _ hbx2]; rfl
            have l2 := lt_of_block hbx2
            have HB2 := hidE ((HB1.out.alloc HB1.out.size (.cells #[.int .i64 0] 3)).trans (hb2.mono (by have := HB1.out.size; simp; omega)))
            have HBX2 := hidE hbx2
            clear hbx2 hb2 c0 c1 hpt
            go_wp2_with (go_at_call 23; refine (within_any _ _ _ _).mono ?_; rw [HR.out]; rintro e w' ⟨rfl, rfl⟩)
            have B3 : Below w.heap.size w (w2.alloc (.cells #[.int .i64 (R : Int), .slice a bs.length cap] 24)) := HB2.out.alloc HB2.out.size _
            have htn := through_net (w2.alloc (.cells #[.int .i64 (R : Int), .slice a bs.length cap] 24)) R R a cap bs rfl (by omega) (by omega) (by omega) (fun b hb => (NV.out b hb).1) (H.out.below B3 (Nat.le_refl _))
            rw [HQ.out] at htn
            refine htn.mono ?_
            rintro e w3 ⟨hb3, hpost⟩
            have B4 := hidE (B3.trans (hb3.mono B3.size))
            clear htn B3 hb3
            cases q with
            | none =>
              simp only at hpost
              subst hpost
              go_wp2_with fail
              go_ret3
              refine ⟨?_, B4.out⟩
              rw [HD.out]
              exact ⟨_, rfl, World.ownsRow_nil _ _ _ _⟩
            | some t =>
              obtain ⟨b, rfl, hcall⟩ := hpost
              have HCL := hidE hcall
              clear hcall
              go_wp2_with fail
              refine HCL.out.mono ?_
              rintro e w4 ⟨⟨vv, rfl, ho⟩, hb4⟩
              have HO := hidE ho
              have HB5 := hidE hb4
              clear ho hb4
              go_wp2_with fail
              go_ret3
              refine ⟨?_, B4.out.trans (HB5.out.mono B4.out.size)⟩
              rw [HD.out]
              exact ⟨_, rfl, ownsRow_base HO.out B4.out.size⟩
          · obtain ⟨R, rfl⟩ := Int.eq_ofNat_of_zero_le (show 0 ≤ N by omega)
            have hx : throughX bs p v = bs ++ [⟨0, p, v, 0⟩, ⟨p, 0, -v, 0⟩] := by unfold throughX; rw [if_neg hp0]
            have hxl : (bs ++ [(⟨0, p, v, 0⟩ : Bd), ⟨p, 0, -v, 0⟩]).length ≤ 2002 := by simp; omega
            have hxv := throughX_valid (R := R) (bs := bs) (by omega) (fun b hb => (NV.out b hb).1) hpr.1 hpr.2 hvr.1 hvr.2
            rw [hx] at hxv
            obtain ⟨xs, hxs⟩ : ∃ xs, bs ++ [(⟨0, p, v, 0⟩ : Bd), ⟨p, 0, -v, 0⟩] = xs := ⟨_, rfl⟩
            rw [hxs] at hx hxl hxv
            obtain ⟨q, hq⟩ : ∃ q, openedP R xs = q := ⟨_, rfl⟩
            have hd : throughE R bs p v = if q.isSome = true then (valuesP R xs, true, 0) else ([], false, 0) := by unfold throughE; rw [if_neg (by rw [HC0.out]; simp), if_neg (by rw [HP.out]; simp), if_neg (by rw [HR.out]; simp), if_neg hz, hx, hq]; simp
            have HD := hidE hd
            have HQ := hidE hq
            have HXV := hidE hxv
            have HXS := hidE hxs
            have z1 : (p == 0) = false := by simpa using hp0
            have z2 : (p != 0) = true := by simpa using hp0
            have v0 := hvr.1
            have v1 := hvr.2
            clear hd hz hx hq hxs hxv hp0
            go_enter Tryz.func15, Tryz.ntmps15
            go_wp2_with fail
            refine HCK.out.mono ?_
            rintro e w1 ⟨rfl, hb1⟩
            have hbx := blk_below hb1 (by simp) (heap_alloc_new w (.cells #[.int .i64 (R : Int), .slice a bs.length cap] 24))
            have c0 : w1.cell? ⟨w.heap.size, 0, none⟩ = some (.int .i64 (R : Int)) := by rw [cell_of_row _ _ _ _ _ _ hbx]; rfl
            have c1 : w1.cell? ⟨w.heap.size, 1, none⟩ = some (.slice a bs.length cap) := by rw [cell_of_row _ _ _ _ _ _ hbx]; rfl
            have l1 := lt_of_block hbx
            have HB1 := hidE (hB0.trans (hb1.mono hB0.size))
            have HBX := hidE hbx
            clear hbx hb1
            go_wp2_with fail
            have hpt : Calls Tryz.prog 40 #[.agg #[.int .i64 (R : Int), .slice a bs.length cap], .slice (some ⟨w1.heap.size, 0, none⟩) 1 1] (w1.alloc (.cells #[.int .i64 p] 3)) _ := point_any _ (R : Int) (.slice a bs.length cap) (some ⟨w1.heap.size, 0, none⟩) 1 [p] n0 n1 (by simp) (ints_one w1 p)
            rw [HP.out] at hpt
            refine hpt.mono ?_
            rintro e w2 ⟨rfl, hb2⟩
            have hbx2 := blk_below hb2 (by simp; omega) ((Below.heap_alloc w1 (.cells #[.int .i64 p] 3) _ l1).trans HBX.out)
            have e0 : w2.cell? ⟨w.heap.size, 0, none⟩ = some (.int .i64 (R : Int)) := by rw [cell_of_row _ _ _ _ _ _ hbx2]; rfl
            have e1 : w2.cell? ⟨w.heap.size, 1, none⟩ = some (.slice a bs.length cap) := by rw [cell_of_row _ _ _ _ _ _ hbx2]; rfl
            have l2 := lt_of_block hbx2
            have HB2 := hidE ((HB1.out.alloc HB1.out.size (.cells #[.int .i64 p] 3)).trans (hb2.mono (by have := HB1.out.size; simp; omega)))
            have HBX2 := hidE hbx2
            clear hbx2 hb2 c0 c1 hpt
            go_wp2_with (go_at_call 23; refine (within_any _ _ _ _).mono ?_; rw [HR.out]; rintro e w' ⟨rfl, rfl⟩)
            obtain ⟨W3, hW3⟩ : ∃ W3, ((w2.alloc (.cells #[.int .i64 (R : Int), .slice a bs.length cap] 24)).alloc (.cells #[.int .i64 0, .int .i64 p, .int .i64 v, .int .i64 0, .int .i64 p, .int .i64 0, .int .i64 (-v), .int .i64 0] 47)).alloc (.cells #[.slice a bs.length cap, .slice (some ⟨w2.heap.size + 1, 0, none⟩) 2 2] 22) = W3 := ⟨_, rfl⟩
            rw [hW3]
            have y0 : W3.heap[w2.heap.size]? = some (.cells #[.int .i64 (R : Int), .slice a bs.length cap] 24 (0,0)) := by rw [← hW3, Below.heap_alloc _ _ _ (by simp; omega), Below.heap_alloc _ _ _ (by simp), heap_alloc_new]
            have y1 : W3.heap[w2.heap.size + 1]? = some (.cells #[.int .i64 0, .int .i64 p, .int .i64 v, .int .i64 0, .int .i64 p, .int .i64 0, .int .i64 (-v), .int .i64 0] 47 (0,0)) := by rw [← hW3, Below.heap_alloc _ _ _ (by simp), heap_alloc_at _ _ _ (by simp)]
            have y2 : W3.heap[w2.heap.size + 1 + 1]? = some (.cells #[.slice a bs.length cap, .slice (some ⟨w2.heap.size + 1, 0, none⟩) 2 2] 22 (0,0)) := by rw [← hW3, heap_alloc_at _ _ _ (by simp)]
            have b3 : Below w.heap.size w W3 := by rw [← hW3]; exact ((HB2.out.alloc HB2.out.size _).alloc (by have := HB2.out.size; simp; omega) _).alloc (by have := HB2.out.size; simp; omega) _
            have z3 : W3.heap.size = w2.heap.size + 3 := by rw [← hW3]; simp
            have hb2x : BoundsAt W3 (some ⟨w2.heap.size + 1, 0, none⟩) [⟨0, p, v, 0⟩, ⟨p, 0, -v, 0⟩] := .inr ⟨_, _, rfl, by omega, fun i hi => by
              match i, hi with
              | 0, _ => exact ⟨by rw [cell_of_row _ _ _ _ _ _ y1]; rfl, by rw [cell_of_row _ _ _ _ _ _ y1]; rfl, by rw [cell_of_row _ _ _ _ _ _ y1]; rfl, by rw [cell_of_row _ _ _ _ _ _ y1]; rfl⟩
              | 1, _ => exact ⟨by rw [cell_of_row _ _ _ _ _ _ y1]; rfl, by rw [cell_of_row _ _ _ _ _ _ y1]; rfl, by rw [cell_of_row _ _ _ _ _ _ y1]; rfl, by rw [cell_of_row _ _ _ _ _ _ y1]; rfl⟩⟩
            have hcc := concat_bounds W3 (w2.heap.size + 1 + 1) 2 a cap bs (some ⟨w2.heap.size + 1, 0, none⟩) 2 [⟨0, p, v, 0⟩, ⟨p, 0, -v, 0⟩] (H.out.below b3 (Nat.le_refl _)) hb2x (by omega) (by simp) y2
            rw [HXS.out] at hcc
            refine hcc.mono ?_
            rintro e w4 ⟨v4, rfl, ho, hb4⟩
            have q0 := (hb4.block w2.heap.size (by omega)).trans y0
            have ho2 : BoundsOut xs W3.heap.size v4 (w4.setCell ⟨w2.heap.size, 1, none⟩ v4) := ownsRow_setCell_below ho (by show w2.heap.size < _; omega) v4
            obtain ⟨o, cp, rfl, hba, _⟩ := boundsAt_of_out ho2
            have p0 : w4.cell? ⟨w2.heap.size, 0, none⟩ = some (.int .i64 (R : Int)) := by rw [cell_of_row _ _ _ _ _ _ q0]; rfl
            have p1 : w4.cell? ⟨w2.heap.size, 1, none⟩ = some (.slice a bs.length cap) := by rw [cell_of_row _ _ _ _ _ _ q0]; rfl
            have p2 : w4.frozen? ⟨w2.heap.size, 1, none⟩ = false := frozen_of_row _ _ _ _ _ q0
            have B3 : Below w.heap.size w (w4.setCell ⟨w2.heap.size, 1, none⟩ (.slice o xs.length cp)) := (b3.trans (hb4.mono b3.size)).setCell (by exact HB2.out.size) _
            have htn := through_net (w4.setCell ⟨w2.heap.size, 1, none⟩ (.slice o xs.length cp)) R R o cp xs rfl (by omega) (by omega) hxl HXV.out hba
            rw [HQ.out] at htn
            have HTN := hidE htn
            have HB3 := hidE B3
            clear hcc hW3 y0 y1 y2 b3 z3 hb2x ho hb4 q0 ho2 hba B3 htn e0 e1
            go_wp2_with fail
            refine HTN.out.mono ?_
            rintro e w5 ⟨hb5, hpost⟩
            have B4 := hidE (HB3.out.trans (hb5.mono HB3.out.size))
            clear hb5
            cases q with
            | none =>
              simp only at hpost
              subst hpost
              go_wp2_with fail
              go_ret3
              refine ⟨?_, B4.out⟩
              rw [HD.out]
              exact ⟨_, rfl, World.ownsRow_nil _ _ _ _⟩
            | some t =>
              obtain ⟨b, rfl, hcall⟩ := hpost
              have HCL := hidE hcall
              clear hcall
              go_wp2_with fail
              refine HCL.out.mono ?_
              rintro e w6 ⟨⟨vv, rfl, ho⟩, hb6⟩
              have HO := hidE ho
              have HB5 := hidE hb6
              clear ho hb6
              go_wp2_with fail
              go_ret3
              refine ⟨?_, B4.out.trans (HB5.out.mono B4.out.size)⟩
              rw [HD.out]
              exact ⟨_, rfl, ownsRow_base HO.out B4.out.size⟩
      · have hr' : inR v (-1000000) 1000000 = false := by simpa using hr
        have hd : throughE N bs p v = ([], false, 1) := by unfold throughE; rw [if_neg (by rw [HC0.out]; simp), if_neg (by rw [HP.out]; simp), if_pos hr']
        have HR := hidE hr'
        have HD := hidE hd
        clear hd hr' hr
        go_enter Tryz.func15, Tryz.ntmps15
        go_wp2_with fail
        refine HCK.out.mono ?_
        rintro e w1 ⟨rfl, hb1⟩
        have hbx := blk_below hb1 (by simp) (heap_alloc_new w (.cells #[.int .i64 N, .slice a bs.length cap] 24))
        have c0 : w1.cell? ⟨w.heap.size, 0, none⟩ = some (.int .i64 N) := by rw [cell_of_row _ _ _ _ _ _ hbx]; rfl
        have c1 : w1.cell? ⟨w.heap.size, 1, none⟩ = some (.slice a bs.length cap) := by rw [cell_of_row _ _ _ _ _ _ hbx]; rfl
        have l1 := lt_of_block hbx
        have HB1 := hidE (hB0.trans (hb1.mono hB0.size))
        have HBX := hidE hbx
        clear hbx hb1
        go_wp2_with fail
        have hpt : Calls Tryz.prog 40 #[.agg #[.int .i64 N, .slice a bs.length cap], .slice (some ⟨w1.heap.size, 0, none⟩) 1 1] (w1.alloc (.cells #[.int .i64 p] 3)) _ := point_any _ N (.slice a bs.length cap) (some ⟨w1.heap.size, 0, none⟩) 1 [p] n0 n1 (by simp) (ints_one w1 p)
        rw [HP.out] at hpt
        refine hpt.mono ?_
        rintro e w2 ⟨rfl, hb2⟩
        have hbx2 := blk_below hb2 (by simp; omega) ((Below.heap_alloc w1 (.cells #[.int .i64 p] 3) _ l1).trans HBX.out)
        have e0 : w2.cell? ⟨w.heap.size, 0, none⟩ = some (.int .i64 N) := by rw [cell_of_row _ _ _ _ _ _ hbx2]; rfl
        have e1 : w2.cell? ⟨w.heap.size, 1, none⟩ = some (.slice a bs.length cap) := by rw [cell_of_row _ _ _ _ _ _ hbx2]; rfl
        have l2 := lt_of_block hbx2
        have HB2 := hidE ((HB1.out.alloc HB1.out.size (.cells #[.int .i64 p] 3)).trans (hb2.mono (by have := HB1.out.size; simp; omega)))
        have HBX2 := hidE hbx2
        clear hbx2 hb2 c0 c1 hpt
        go_wp2_with (go_at_call 23; refine (within_any _ _ _ _).mono ?_; rw [HR.out]; rintro e w' ⟨rfl, rfl⟩)
        go_ret3
        refine ⟨?_, HB2.out⟩
        rw [HD.out]
        exact ⟨_, rfl, World.ownsRow_nil _ _ _ _⟩
    · have hp1 : pointP N [p] = 1 := (pointP_bd N [p]).resolve_left hp
      have hd : throughE N bs p v = ([], false, 1) := by unfold throughE; rw [if_neg (by rw [HC0.out]; simp), if_pos hp, hp1]
      have HP := hidE hp1
      have HD := hidE hd
      clear hd hp1 hp
      go_enter Tryz.func15, Tryz.ntmps15
      go_wp2_with fail
      refine HCK.out.mono ?_
      rintro e w1 ⟨rfl, hb1⟩
      have hbx := blk_below hb1 (by simp) (heap_alloc_new w (.cells #[.int .i64 N, .slice a bs.length cap] 24))
      have c0 : w1.cell? ⟨w.heap.size, 0, none⟩ = some (.int .i64 N) := by rw [cell_of_row _ _ _ _ _ _ hbx]; rfl
      have c1 : w1.cell? ⟨w.heap.size, 1, none⟩ = some (.slice a bs.length cap) := by rw [cell_of_row _ _ _ _ _ _ hbx]; rfl
      have l1 := lt_of_block hbx
      have HB1 := hidE (hB0.trans (hb1.mono hB0.size))
      have HBX := hidE hbx
      clear hbx hb1
      go_wp2_with fail
      have hpt : Calls Tryz.prog 40 #[.agg #[.int .i64 N, .slice a bs.length cap], .slice (some ⟨w1.heap.size, 0, none⟩) 1 1] (w1.alloc (.cells #[.int .i64 p] 3)) _ := point_any _ N (.slice a bs.length cap) (some ⟨w1.heap.size, 0, none⟩) 1 [p] n0 n1 (by simp) (ints_one w1 p)
      rw [HP.out] at hpt
      refine hpt.mono ?_
      rintro e w2 ⟨rfl, hb2⟩
      have hbx2 := blk_below hb2 (by simp; omega) ((Below.heap_alloc w1 (.cells #[.int .i64 p] 3) _ l1).trans HBX.out)
      have e0 : w2.cell? ⟨w.heap.size, 0, none⟩ = some (.int .i64 N) := by rw [cell_of_row _ _ _ _ _ _ hbx2]; rfl
      have e1 : w2.cell? ⟨w.heap.size, 1, none⟩ = some (.slice a bs.length cap) := by rw [cell_of_row _ _ _ _ _ _ hbx2]; rfl
      have l2 := lt_of_block hbx2
      have HB2 := hidE ((HB1.out.alloc HB1.out.size (.cells #[.int .i64 p] 3)).trans (hb2.mono (by have := HB1.out.size; simp; omega)))
      have HBX2 := hidE hbx2
      clear hbx2 hb2 c0 c1 hpt
      go_wp2_with fail
      go_ret3
      refine ⟨?_, HB2.out⟩
      rw [HD.out]
      exact ⟨_, rfl, World.ownsRow_nil _ _ _ _⟩
  · have hd : throughE N bs p v = ([], false, checkP N bs) := by unfold throughE; rw [if_pos hc]
    obtain ⟨c, hcc⟩ : ∃ c, checkP N bs = c := ⟨_, rfl⟩
    rw [hcc] at hd hc hck
    have hc1 : (c == 0) = false := by simpa using hc
    have hc2 : (c != 0) = true := by simpa using hc
    have HCK := hidE hck
    have HD := hidE hd
    clear hd hc hck hcc hN
    go_enter Tryz.func15, Tryz.ntmps15
    go_wp2_with fail
    refine HCK.out.mono ?_
    rintro e w1 ⟨rfl, hb1⟩
    go_wp2_with fail
    go_ret3
    refine ⟨?_, hB0.trans (hb1.mono hB0.size)⟩
    rw [HD.out]
    exact ⟨_, rfl, World.ownsRow_nil _ _ _ _⟩

end Go.Proofs.YthcmjhellpjllaaGreat
