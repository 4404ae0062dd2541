/- Texts of this claim, merged: G0, S, G1, G4, G5, Pa0, G6, G7, Pa14, Pa15, Pa16, M1, G8, G9, Pa17, G11, G12, Pa1, Pb0, Pb1, S0. -/
import Derived.Below
import Derived.ChangeSlices
import Derived.Handed
import Derived.LaidHandle
import Derived.LaidMore
import Derived.Laws.RangeAny
import Derived.Laws.StructEq
import Derived.Lib.Hide
import Derived.Lib.LaidIn
import Derived.Lib.LaidU8
import Derived.Lib.OthersKept
import Derived.Lib.SliceRun
import Derived.Lib.TrimUEq
import Derived.OpenShut
import Derived.Outline
import Derived.ProofKit
import Derived.Shelf.Bits.Mul64
import Derived.Shelf.Slices.Cells
import Derived.Shelf.Slices.CompactS
import Derived.Shelf.Slices.In.SortNone
import Derived.Shelf.Small.Bits
import Derived.Shelf.Small.Utf8
import Derived.Shelf.Sort.Plain
import Derived.Shelf.Strconv.Itoa0
import Derived.Shelf.Strings.Builder1
import Derived.Shelf.Strings.Builder2
import Derived.Shelf.Strings.OnBuilder
import Derived.Shelf.Unicode.Decode
import Derived.Shelf.Unicode.DecodeAny
import Derived.Shelf.Unicode.DecodeLast
import Derived.Shelf.Unicode.DecodeSlow
import Derived.SizedLaws
import Derived.Sort.OwnSorted
import Derived.Stop.Joined
import Derived.Test.YtopmcoohdhlnaaaGreatDoorProg
import Derived.Test.YtopmcoohdhlnaaaGreatDoorRows
import Derived.WalkKit
import Derived.WalkSmall
import Derived.WalkSpells
import Derived.Test.YtopmcoohdhlnaaaGreatDoorXA0
set_option linter.unusedVariables false
set_option linter.unusedSimpArgs false
namespace Go.Proofs.YtopmcoohdhlnaaaGreatDoor
open Go.RowKit
/-- The tables stand in blocks that are older than a call: they read behind it as ahead of it. -/
theorem tabs_below {g3 g4 : Nat} {w w1 : World} (h : Lib.Utf8Tabs g3 g4 w) (hb : Below w.heap.size w w1) : Lib.Utf8Tabs g3 g4 w1 := by
 have lt : ∀ {b c : Nat} {v : Value}, w.cell? ⟨b, c, none⟩ = some v → b < w.heap.size := fun hc => World.block_lt_of_cell? _ _ hc; refine ⟨fun c hc => ?_, fun i hi => ⟨?_, ?_⟩⟩
 ·exact (hb.cell (p := ⟨g3, c, none⟩) (lt (h.1 c hc))).trans (h.1 c hc)
 ·exact (hb.cell (p := ⟨g4, 2 * i, none⟩) (lt (h.2 i hi).1)).trans (h.2 i hi).1
 ·exact (hb.cell (p := ⟨g4, 2 * i + 1, none⟩) (lt (h.2 i hi).2)).trans (h.2 i hi).2
end Go.Proofs.YtopmcoohdhlnaaaGreatDoor
namespace Go.Proofs
open Go.Shelf
def Tryz.lays156_ren : Go.Shelf.Ren := ⟨fun | 156 => 72 | 165 => 82 | 166 => 83 | 169 => 84 | 240 => 89 | 241 => 90 | 276 => 104 | 277 => 105 | n => n, fun | 31 => 26 | 9 => 9 | 3 => 3 | 4 => 4 | 0 => 0 | 20 => 20 | 72 => 120 | 76 => 124 | 70 => 118 | 37 => 106 | 75 => 123 | 127 => 131 | 164 => 143 | 5 => 5 | 80 => 84 | n => n, fun | n => n⟩
theorem Tryz.lays156 : Go.Proofs.Lays.n156 Tryz.prog Tryz.lays156_ren := {
 mixed := by kernel_rfl
 f156 := Tryz.func72.trans (congrArg some (by kernel_rfl))
 f165 := Tryz.func82.trans (congrArg some (by kernel_rfl))
 f166 := Tryz.func83.trans (congrArg some (by kernel_rfl))
 f169 := Tryz.func84.trans (congrArg some (by kernel_rfl))
 f240 := Tryz.func89.trans (congrArg some (by kernel_rfl))
 f241 := Tryz.func90.trans (congrArg some (by kernel_rfl))
 f276 := Tryz.func104.trans (congrArg some (by kernel_rfl))
 f277 := Tryz.func105.trans (congrArg some (by kernel_rfl))
 t0 := Tryz.underlying0
 a0 := Tryz.isAgg0
 z0 := Tryz.sizeOf0
 v0 := Tryz.zeroValue0
 t3 := Tryz.underlying3
 a3 := Tryz.isAgg3
 z3 := Tryz.sizeOf3
 v3 := Tryz.zeroValue3
 t4 := Tryz.underlying4
 a4 := Tryz.isAgg4
 z4 := Tryz.sizeOf4
 v4 := Tryz.zeroValue4
 t9 := Tryz.underlying9
 a9 := Tryz.isAgg9
 z9 := Tryz.sizeOf9
 v9 := Tryz.zeroValue9
 t20 := Tryz.underlying20
 a20 := Tryz.isAgg20
 z20 := Tryz.sizeOf20
 v20 := Tryz.zeroValue20
 t31 := Tryz.underlying26
 a31 := Tryz.isAgg26
 z31 := Tryz.sizeOf26
 v31 := Tryz.zeroValue26
 t37 := Tryz.underlying106
 a37 := Tryz.isAgg106
 z37 := Tryz.sizeOf106
 v37 := Tryz.zeroValue106
 t70 := Tryz.underlying118
 a70 := Tryz.isAgg118
 z70 := Tryz.sizeOf118
 v70 := Tryz.zeroValue118
 t72 := Tryz.underlying120
 a72 := Tryz.isAgg120
 z72 := Tryz.sizeOf120
 v72 := Tryz.zeroValue120
 t75 := Tryz.underlying123
 a75 := Tryz.isAgg123
 z75 := Tryz.sizeOf123
 v75 := Tryz.zeroValue123
 t76 := Tryz.underlying124
 a76 := Tryz.isAgg124
 z76 := Tryz.sizeOf124
 v76 := Tryz.zeroValue124
 t127 := Tryz.underlying131
 a127 := Tryz.isAgg131
 z127 := Tryz.sizeOf131
 v127 := Tryz.zeroValue131
 t164 := Tryz.underlying143
 a164 := Tryz.isAgg143
 z164 := Tryz.sizeOf143
 v164 := Tryz.zeroValue143 }
theorem Tryz.Builder_Extra_156 : Builder.Extra Tryz.prog Tryz.lays156_ren := {
 sizeBuilder := by kernel_rfl
 liesBuilder := by kernel_rfl
 t5 := Tryz.underlying5
 a5 := Tryz.isAgg5
 z5 := Tryz.sizeOf5
 v5 := Tryz.zeroValue5
 infoByte := by kernel_rfl
 cellsByte := by kernel_rfl
 sizeByte := by kernel_rfl
 neB5 := by decide }
open Go.RowKit in
/-- No element: the empty string; the world is as it was. (Whatever the slice's address and capacity: a nil slice too.) (LAID: no walk: one application.) -/
theorem Tryz.strings_Join_none (a : Option Addr) (c : Nat) (sep : ByteArray) (w : World) :
  Calls Tryz.prog 72 #[.slice a 0 c, .string sep] w fun e w' => e = .returned (.string ⟨#[]⟩) ∧ w' = w := Any.strings_Join_none Tryz.lays156 Tryz.Builder_Extra_156 a c sep w
open Go.RowKit in
/-- strings.Join: "Join concatenates the elements of its first argument to create a single string. The separator string sep is placed between elements in the resulting string.": HOWEVER MANY ELEMENTS. Below the heap's end the world is as it was. (LAID: no walk: one application.) -/
theorem Tryz.strings_Join (bk o c : Nat) (xs : List ByteArray) (sep : ByteArray) (w : World) (hcells : ∀ (j : Nat) x, xs[j]? = some x → w.cell? ⟨bk, o + j, none⟩ = some (.string x)) (hbk : bk < w.heap.size) (hN : xs.length ≤ 140737488355328) (hcap : xs.length ≤ c) (hlen : (Lib.join (xs.map (·.data.toList)) sep.data.toList).length ≤ 140737488355328) :
  Calls Tryz.prog 72 #[.slice (some ⟨bk, o, none⟩) xs.length c, .string sep] w fun e w' => e = .returned (.string ⟨(Lib.join (xs.map (·.data.toList)) sep.data.toList).toArray⟩) ∧ Below w.heap.size w w' := Any.strings_Join Tryz.lays156 Tryz.Builder_Extra_156 bk o c xs sep w hcells hbk hN hcap hlen
def Tryz.lays190_ren : Go.Shelf.Ren := ⟨fun | 190 => 78 | 125 => 87 | 258 => 86 | 128 => 102 | 129 => 103 | 302 => 93 | 303 => 94 | 304 => 95 | 305 => 96 | 306 => 97 | 307 => 98 | 308 => 99 | 309 => 100 | 310 => 101 | 333 => 107 | 329 => 108 | 330 => 109 | 334 => 110 | 335 => 111 | 336 => 112 | 344 => 113 | n => n, fun | 31 => 26 | 9 => 9 | 3 => 3 | 46 => 74 | 0 => 0 | 51 => 80 | 53 => 77 | 4 => 4 | 183 => 134 | 182 => 133 | 131 => 139 | 5 => 5 | 218 => 146 | 222 => 150 | 228 => 156 | 229 => 157 | n => n, fun | n => n⟩
theorem Tryz.lays190 : Go.Proofs.Lays.n190 Tryz.prog Tryz.lays190_ren := {
 mixed := by kernel_rfl
 f125 := Tryz.func87.trans (congrArg some (by kernel_rfl))
 f128 := Tryz.func102.trans (congrArg some (by kernel_rfl))
 f129 := Tryz.func103.trans (congrArg some (by kernel_rfl))
 f190 := Tryz.func78.trans (congrArg some (by kernel_rfl))
 f258 := Tryz.func86.trans (congrArg some (by kernel_rfl))
 f302 := Tryz.func93.trans (congrArg some (by kernel_rfl))
 f303 := Tryz.func94.trans (congrArg some (by kernel_rfl))
 f304 := Tryz.func95.trans (congrArg some (by kernel_rfl))
 f305 := Tryz.func96.trans (congrArg some (by kernel_rfl))
 f306 := Tryz.func97.trans (congrArg some (by kernel_rfl))
 f307 := Tryz.func98.trans (congrArg some (by kernel_rfl))
 f308 := Tryz.func99.trans (congrArg some (by kernel_rfl))
 f309 := Tryz.func100.trans (congrArg some (by kernel_rfl))
 f310 := Tryz.func101.trans (congrArg some (by kernel_rfl))
 f329 := Tryz.func108.trans (congrArg some (by kernel_rfl))
 f330 := Tryz.func109.trans (congrArg some (by kernel_rfl))
 f333 := Tryz.func107.trans (congrArg some (by kernel_rfl))
 f334 := Tryz.func110.trans (congrArg some (by kernel_rfl))
 f335 := Tryz.func111.trans (congrArg some (by kernel_rfl))
 f336 := Tryz.func112.trans (congrArg some (by kernel_rfl))
 f344 := Tryz.func113.trans (congrArg some (by kernel_rfl))
 t0 := Tryz.underlying0
 a0 := Tryz.isAgg0
 z0 := Tryz.sizeOf0
 v0 := Tryz.zeroValue0
 t3 := Tryz.underlying3
 a3 := Tryz.isAgg3
 z3 := Tryz.sizeOf3
 v3 := Tryz.zeroValue3
 t4 := Tryz.underlying4
 a4 := Tryz.isAgg4
 z4 := Tryz.sizeOf4
 v4 := Tryz.zeroValue4
 t5 := Tryz.underlying5
 a5 := Tryz.isAgg5
 z5 := Tryz.sizeOf5
 v5 := Tryz.zeroValue5
 t9 := Tryz.underlying9
 a9 := Tryz.isAgg9
 z9 := Tryz.sizeOf9
 v9 := Tryz.zeroValue9
 t31 := Tryz.underlying26
 a31 := Tryz.isAgg26
 z31 := Tryz.sizeOf26
 v31 := Tryz.zeroValue26
 t46 := Tryz.underlying74
 a46 := Tryz.isAgg74
 z46 := Tryz.sizeOf74
 v46 := Tryz.zeroValue74
 t51 := Tryz.underlying80
 a51 := Tryz.isAgg80
 z51 := Tryz.sizeOf80
 v51 := Tryz.zeroValue80
 t53 := Tryz.underlying77
 a53 := Tryz.isAgg77
 z53 := Tryz.sizeOf77
 v53 := Tryz.zeroValue77
 t131 := Tryz.underlying139
 a131 := Tryz.isAgg139
 z131 := Tryz.sizeOf139
 v131 := Tryz.zeroValue139
 t182 := Tryz.underlying133
 a182 := Tryz.isAgg133
 z182 := Tryz.sizeOf133
 v182 := Tryz.zeroValue133
 t183 := Tryz.underlying134
 a183 := Tryz.isAgg134
 z183 := Tryz.sizeOf134
 v183 := Tryz.zeroValue134
 t218 := Tryz.underlying146
 a218 := Tryz.isAgg146
 z218 := Tryz.sizeOf146
 v218 := Tryz.zeroValue146
 t222 := Tryz.underlying150
 a222 := Tryz.isAgg150
 z222 := Tryz.sizeOf150
 v222 := Tryz.zeroValue150
 t228 := Tryz.underlying156
 a228 := Tryz.isAgg156
 z228 := Tryz.sizeOf156
 v228 := Tryz.zeroValue156
 t229 := Tryz.underlying157
 a229 := Tryz.isAgg157
 z229 := Tryz.sizeOf157
 v229 := Tryz.zeroValue157 }
open Go.Sort Go.RowKit in
theorem Tryz.slices_Sort_string (blk off cap : Nat) (ss : List (List UInt8)) (w : World) (hH : Holds encStr w blk off ss.toArray) (hblk : blk < w.heap.size) (hsz : ss.length < 4611686018427387904) :
  Calls Tryz.prog 78 #[.slice (some ⟨blk, off, none⟩) ss.length cap] w fun e w' =>
   e = .returned (.tuple #[]) ∧ ∃ n os, w' = grow (putRow encStr (Sort.ahead w n) blk off (ss.mergeSort fun x y => decide (x ≤ y)).toArray) os := Any.slices_Sort_string Tryz.lays190 blk off cap ss w hH hblk hsz
def Tryz.lays212_ren : Go.Shelf.Ren := ⟨fun | 212 => 36 | 263 => 66 | 264 => 67 | n => n, fun | 46 => 74 | 51 => 80 | 146 => 101 | 53 => 77 | 148 => 103 | n => n, fun | n => n⟩
theorem Tryz.lays212 : Go.Proofs.Lays.n212 Tryz.prog Tryz.lays212_ren := {
 mixed := by kernel_rfl
 f212 := Tryz.func36.trans (congrArg some (by kernel_rfl))
 f263 := Tryz.func66.trans (congrArg some (by kernel_rfl))
 f264 := Tryz.func67.trans (congrArg some (by kernel_rfl))
 t46 := Tryz.underlying74
 a46 := Tryz.isAgg74
 z46 := Tryz.sizeOf74
 v46 := Tryz.zeroValue74
 t51 := Tryz.underlying80
 a51 := Tryz.isAgg80
 z51 := Tryz.sizeOf80
 v51 := Tryz.zeroValue80
 t53 := Tryz.underlying77
 a53 := Tryz.isAgg77
 z53 := Tryz.sizeOf77
 v53 := Tryz.zeroValue77
 t146 := Tryz.underlying101
 a146 := Tryz.isAgg101
 z146 := Tryz.sizeOf101
 v146 := Tryz.zeroValue101
 t148 := Tryz.underlying103
 a148 := Tryz.isAgg103
 z148 := Tryz.sizeOf103
 v148 := Tryz.zeroValue103 }
open Go.RowKit Go.Lib in
/-- math/bits.Mul: "Mul returns the full-width product of x and y": on a machine of 64 bits: Mul64's. (LAID: no walk: one application.) -/
theorem Tryz.bits_Mul (x y : Nat) (hx : x < 18446744073709551616) (hy : y < 18446744073709551616) (w : World) :
  Calls Tryz.prog 36 #[.int .u64 x, .int .u64 y] w fun e w' => e = .returned (.tuple #[.int .u64 ((x * y / 18446744073709551616 : Nat) : Int), .int .u64 ((x * y % 18446744073709551616 : Nat) : Int)]) ∧ w' = w := Any.bits_Mul Tryz.lays212 x y hx hy w
def Tryz.lays260_ren : Go.Shelf.Ren := ⟨fun | 260 => 106 | n => n, fun | 9 => 9 | 21 => 21 | 3 => 3 | 4 => 4 | 5 => 5 | 119 => 152 | 0 => 0 | 46 => 74 | 139 => 155 | 138 => 154 | n => n, fun | 3 => 1 | 4 => 2 | n => n⟩
theorem Tryz.lays260 : Go.Proofs.Lays.n260 Tryz.prog Tryz.lays260_ren := {
 mixed := by kernel_rfl
 f260 := Tryz.func106.trans (congrArg some (by kernel_rfl))
 t0 := Tryz.underlying0
 a0 := Tryz.isAgg0
 z0 := Tryz.sizeOf0
 v0 := Tryz.zeroValue0
 t3 := Tryz.underlying3
 a3 := Tryz.isAgg3
 z3 := Tryz.sizeOf3
 v3 := Tryz.zeroValue3
 t4 := Tryz.underlying4
 a4 := Tryz.isAgg4
 z4 := Tryz.sizeOf4
 v4 := Tryz.zeroValue4
 t5 := Tryz.underlying5
 a5 := Tryz.isAgg5
 z5 := Tryz.sizeOf5
 v5 := Tryz.zeroValue5
 t9 := Tryz.underlying9
 a9 := Tryz.isAgg9
 z9 := Tryz.sizeOf9
 v9 := Tryz.zeroValue9
 t21 := Tryz.underlying21
 a21 := Tryz.isAgg21
 z21 := Tryz.sizeOf21
 v21 := Tryz.zeroValue21
 t46 := Tryz.underlying74
 a46 := Tryz.isAgg74
 z46 := Tryz.sizeOf74
 v46 := Tryz.zeroValue74
 t119 := Tryz.underlying152
 a119 := Tryz.isAgg152
 z119 := Tryz.sizeOf152
 t138 := Tryz.underlying154
 a138 := Tryz.isAgg154
 z138 := Tryz.sizeOf154
 v138 := Tryz.zeroValue154
 t139 := Tryz.underlying155
 a139 := Tryz.isAgg155
 z139 := Tryz.sizeOf155
 v139 := Tryz.zeroValue155
 g3 := by kernel_rfl
 g4 := by kernel_rfl }
def Tryz.lays271_ren : Go.Shelf.Ren := ⟨fun | 271 => 85 | 120 => 91 | 197 => 92 | 260 => 106 | n => n, fun | 9 => 9 | 21 => 21 | 3 => 3 | 4 => 4 | 5 => 5 | 105 => 126 | 119 => 152 | 0 => 0 | 46 => 74 | 139 => 155 | 138 => 154 | n => n, fun | 3 => 1 | 4 => 2 | n => n⟩
theorem Tryz.lays271 : Go.Proofs.Lays.n271 Tryz.prog Tryz.lays271_ren := {
 mixed := by kernel_rfl
 f120 := Tryz.func91.trans (congrArg some (by kernel_rfl))
 f197 := Tryz.func92.trans (congrArg some (by kernel_rfl))
 f260 := Tryz.func106.trans (congrArg some (by kernel_rfl))
 f271 := Tryz.func85.trans (congrArg some (by kernel_rfl))
 t0 := Tryz.underlying0
 a0 := Tryz.isAgg0
 z0 := Tryz.sizeOf0
 v0 := Tryz.zeroValue0
 t3 := Tryz.underlying3
 a3 := Tryz.isAgg3
 z3 := Tryz.sizeOf3
 v3 := Tryz.zeroValue3
 t4 := Tryz.underlying4
 a4 := Tryz.isAgg4
 z4 := Tryz.sizeOf4
 v4 := Tryz.zeroValue4
 t5 := Tryz.underlying5
 a5 := Tryz.isAgg5
 z5 := Tryz.sizeOf5
 v5 := Tryz.zeroValue5
 t9 := Tryz.underlying9
 a9 := Tryz.isAgg9
 z9 := Tryz.sizeOf9
 v9 := Tryz.zeroValue9
 t21 := Tryz.underlying21
 a21 := Tryz.isAgg21
 z21 := Tryz.sizeOf21
 v21 := Tryz.zeroValue21
 t46 := Tryz.underlying74
 a46 := Tryz.isAgg74
 z46 := Tryz.sizeOf74
 v46 := Tryz.zeroValue74
 t105 := Tryz.underlying126
 a105 := Tryz.isAgg126
 z105 := Tryz.sizeOf126
 v105 := Tryz.zeroValue126
 t119 := Tryz.underlying152
 a119 := Tryz.isAgg152
 z119 := Tryz.sizeOf152
 t138 := Tryz.underlying154
 a138 := Tryz.isAgg154
 z138 := Tryz.sizeOf154
 v138 := Tryz.zeroValue154
 t139 := Tryz.underlying155
 a139 := Tryz.isAgg155
 z139 := Tryz.sizeOf155
 v139 := Tryz.zeroValue155
 g3 := by kernel_rfl
 g4 := by kernel_rfl }
open Go.RowKit Go.Lib in
/-- **unicode/utf8.DecodeLastRuneInString AT EVERY STRING.** (LAID: no walk: one application.) -/
theorem Tryz.utf8_DecodeLastRuneInString (s : ByteArray) (w : World) (hs : s.size ≤ 9223372036854775807) (hT : Lib.Utf8Tabs 1 2 w) :
  Calls Tryz.prog 85 #[.string s] w fun e w' => e = .returned (.tuple #[.int .i32 (Lib.decodeLastL s.data.toList).1, .int .i64 (Lib.decodeLastL s.data.toList).2]) ∧ Below w.heap.size w w' := Any.utf8_DecodeLastRuneInString Tryz.lays271 s w hs hT
def Tryz.lays194_ren : Go.Shelf.Ren := ⟨fun | 194 => 79 | n => n, fun | 31 => 26 | 9 => 9 | 3 => 3 | 4 => 4 | 0 => 0 | n => n, fun | n => n⟩
theorem Tryz.lays194 : Go.Proofs.Lays.n194 Tryz.prog Tryz.lays194_ren := {
 mixed := by kernel_rfl
 f194 := Tryz.func79.trans (congrArg some (by kernel_rfl))
 t0 := Tryz.underlying0
 a0 := Tryz.isAgg0
 z0 := Tryz.sizeOf0
 v0 := Tryz.zeroValue0
 t3 := Tryz.underlying3
 a3 := Tryz.isAgg3
 z3 := Tryz.sizeOf3
 v3 := Tryz.zeroValue3
 t4 := Tryz.underlying4
 a4 := Tryz.isAgg4
 z4 := Tryz.sizeOf4
 v4 := Tryz.zeroValue4
 t9 := Tryz.underlying9
 a9 := Tryz.isAgg9
 z9 := Tryz.sizeOf9
 v9 := Tryz.zeroValue9
 t31 := Tryz.underlying26
 a31 := Tryz.isAgg26
 z31 := Tryz.sizeOf26
 v31 := Tryz.zeroValue26 }
open Go.RowKit Go.Lib Go.Sort in
/-- slices.Compact at []string: "Compact replaces consecutive runs of equal elements with a single copy. This is like the uniq command found on Unix. Compact modifies the contents of the slice s and returns the modified slice, which may have a smaller length. Compact zeroes the elements between the new length and the original length. The result preserves the nilness of s.": IT RETURNS THE SLICE CUT TO 'Lib.compact zs'; ITS CELLS HOLD 'Lib.compact zs', THEN ZERO VALUES up to the old length; all else is as it was, but for the count of draws. IN THE WORDS OF slices.Sort's CONTRACT ('Holds', 'putRow'): so the everyday 'slices.Sort(xs); xs = slices.Compact(xs)' goes from the one contract to the other. It asks 'zs.length ≤ cap' (every slice's: the reslicing 's[:k]' looks at it). Length 0, nil: '.._empty'. (LAID: no walk: one application.) -/
theorem Tryz.slices_Compact_string (blk off cap : Nat) (zs : List (List UInt8)) (w : World) (hH : Holds encStr w blk off zs.toArray) (hsz : zs.length ≤ 9223372036854775807) (hcap : zs.length ≤ cap) :
  Calls Tryz.prog 79 #[.slice (some ⟨blk, off, none⟩) zs.length cap] w fun e w' => e = .returned (.slice (some ⟨blk, off, none⟩) (Lib.compact zs).length cap) ∧ ∃ q, w' = putRow encStr (Sort.ahead w q) blk off (Lib.compact zs ++ List.replicate (zs.length - (Lib.compact zs).length) []).toArray := Any.slices_Compact_string Tryz.lays194 blk off cap zs w hH hsz hcap
open Go.RowKit Go.Lib Go.Sort in
/-- The same at a slice of length 0, a nil one too: it comes back as it is. (LAID: no walk: one application.) -/
theorem Tryz.slices_Compact_string_empty (a : Option Addr) (cap : Nat) (w : World) :
  Calls Tryz.prog 79 #[.slice a 0 cap] w fun e w' => e = .returned (.slice a 0 cap) ∧ w' = w := Any.slices_Compact_string_empty Tryz.lays194 a cap w
open Go.RowKit Go.Sort in
/-- .. and plain. (LAID: no walk: one application.) -/
theorem Tryz.slices_Sort_string_none (p : Option Addr) (cap : Nat) (w : World) :
  Calls Tryz.prog 78 #[.slice p 0 cap] w fun e w' => e = .returned (.tuple #[]) ∧ w' = w := Any.slices_Sort_string_none Tryz.lays190 p cap w
end Go.Proofs
namespace Go.Proofs.YtopmcoohdhlnaaaGreatDoor.G
open Go.RowKit Go.Lib
set_option linter.unusedVariables false
/-- Is a number that of a letter among the first k of a set? -/
def inTake (set : ByteArray) (k c : Nat) : Bool := (set.data.toList.take k).any fun b => b.toNat == c
def inSet (set : ByteArray) (c : Nat) : Bool := inTake set set.size c
theorem inTake_zero (set : ByteArray) (c : Nat) : inTake set 0 c = false := by simp [inTake]
theorem inTake_succ (set : ByteArray) (k c : Nat) (h : k < set.size) : inTake set (k + 1) c = (inTake set k c || (set[k]'h).toNat == c) := by
 unfold inTake; rw [List.take_succ_eq_append_getElem (by simpa using h), List.any_append]; simp; rfl
def Ascii (set : ByteArray) : Prop := ∀ i (h : i < set.size), (set[i]'h).toNat < 128
theorem inTake_high (set : ByteArray) (ha : Ascii set) (k c : Nat) (hk : k ≤ set.size) (hc : 128 ≤ c) : inTake set k c = false := by
 induction k with
 | zero => exact inTake_zero set c
 | succ k ih =>
  rw [inTake_succ set k c (by omega), ih (by omega)]; have := ha k (by omega); simp; omega
/-- What is known of what cutLeft hands back. -/
def CutL (s set r : ByteArray) : Prop :=
 (r = ⟨#[]⟩ ∧ ∀ i (h : i < s.size), inSet set (s[i]'h).toNat = true) ∨ ∃ i, ∃ h : i < s.size, r = s.extract i s.size ∧ inSet set (s[i]'h).toNat = false
def CutLPost (s set : ByteArray) (w : World) (e : Ending) (w' : World) : Prop := ∃ r, e = .returned (.string r) ∧ CutL s set r ∧ Below w.heap.size w w'
/-- The first step of a range over a string, as the walk wants it: the world behind it under a name. -/
theorem next_named {P : Program} (wr : World) (k : Nat) (s : ByteArray) (pos : Nat) (hit : wr.heap[k]? = some (.stringIter s pos)) (hp : pos < s.size) :
  ∃ w1 : World, (∀ ty, (Instr.next (.pointer (some ⟨k, 0, none⟩)) true ty).run P wr = .ok (.tuple #[.bool true, .int .i64 pos, .int .i32 (Utf8.decode s pos).1]) w1) ∧
   w1.heap[k]? = some (.stringIter s (pos + (Utf8.decode s pos).2)) ∧ w1.heap.size = wr.heap.size ∧ (∀ j, j ≠ k → w1.heap[j]? = wr.heap[j]?) ∧ (∀ B a, B ≤ k → Below B a wr → Below B a w1) :=
 ⟨_, fun ty => run_next_any_at wr k s pos ty hit hp, iterAt_heap _ _ _ _ _ hit, iterAt_size _ _ _ _, fun j hj => iterAt_other _ _ _ _ _ hj, fun B a hk hb => below_iterAt hb hk _ _⟩
theorem iter_other (w : World) (s : ByteArray) (pos j : Nat) (h : j ≠ w.heap.size) : (w.iter s pos).heap[j]? = w.heap[j]? := by
 show (w.heap.push _)[j]? = _; rw [Array.getElem?_push, if_neg h]
theorem below_iter {B : Nat} {a w : World} (h : Below B a w) (hB : B ≤ w.heap.size) (s : ByteArray) (pos : Nat) : Below B a (w.iter s pos) := h.alloc hB _
theorem CutL_step (s set : ByteArray) (ha : Ascii set) (pos : Nat) (h : pos < s.size) (hc : inTake set set.size (Utf8.decode s pos).1 = true) : (Utf8.decode s pos).2 = 1 ∧ inSet set (s[pos]'h).toNat = true := by
 by_cases hb : (s[pos]'h).toNat < 128
 ·rw [decode_ascii s pos h hb] at hc ⊢; exact ⟨rfl, hc⟩
 ·rw [inTake_high set ha _ _ (Nat.le_refl _) (decode_high s pos h (by omega)).1] at hc; cases hc
theorem CutL_stop (s set : ByteArray) (ha : Ascii set) (pos : Nat) (h : pos < s.size) (hc : inTake set set.size (Utf8.decode s pos).1 = false) : CutL s set (s.extract pos s.size) := by
 refine .inr ⟨pos, h, rfl, ?_⟩; by_cases hb : (s[pos]'h).toNat < 128
 ·rw [decode_ascii s pos h hb] at hc; exact hc
 ·exact inTake_high set ha _ _ (Nat.le_refl _) (by omega)
theorem CutL_more (s set : ByteArray) (pos : Nat) (hall : ∀ i (h : i < s.size), i < pos → inSet set (s[i]'h).toNat = true) {h0 : pos < s.size} (h1 : inSet set (s[pos]'h0).toNat = true) : ∀ i (h : i < s.size), i < pos + 1 → inSet set (s[i]'h).toNat = true := by
 intro i h hi; by_cases e : i = pos
 ·subst e; exact h1
 ·exact hall i h (by omega)
set_option maxHeartbeats 1000000 in
set_option maxRecDepth 100000 in
theorem cutLeft_calls (s set : ByteArray) (w : World) (ha : Ascii set) (hs : s.size ≤ 9223372036854775807) (hset : set.size ≤ 9223372036854775807) :
  Calls Tryz.prog 77 #[.string s, .string set] w (CutLPost s set w) := by
 have HA := Lib.hid ha; clear ha; have hat : ∃ wr : World, wr = w.iter s 0 := ⟨_, rfl⟩; go_enter Tryz.func77, Tryz.ntmps77
 go_wp2
 go_loopw [5] (fun _ wr => ∃ pos : Nat, pos ≤ s.size ∧ (∀ i (h : i < s.size), i < pos → inSet set (s[i]'h).toNat = true) ∧ wr.heap[w.heap.size]? = some (.stringIter s pos) ∧ Below w.heap.size w wr) (fun _ wr => s.size - wr.iterPos w.heap.size)
 case atStart => exact ⟨0, Nat.zero_le _, fun i h hi => absurd hi (by omega), World.iter_heap w s 0, below_iter (Below.refl _ _) (Nat.le_refl _) _ _⟩
 case round =>
  obtain ⟨pos, hpos, hall, hit, hb⟩ := hrel; have HALL := Lib.hid hall; clear hall hat; by_cases hp : pos < s.size
  ·obtain ⟨w1, hnx, hit1, hsz1, hoth1, hbel1⟩ := next_named (P := Tryz.prog) wr w.heap.size s pos hit hp; have hb1 := hbel1 _ _ (Nat.le_refl _) hb; have hlt1 : w.heap.size < w1.heap.size := (Array.getElem?_eq_some_iff.1 hit1).1; have HIT1 := Lib.hid hit1; clear hit1 hoth1 hbel1; have hpi : wr.iterPos w.heap.size = pos := iterPos_of hit; have HPI := Lib.hid hpi; clear hpi hit; clear hsz1; obtain ⟨c, hc⟩ : ∃ c, (Utf8.decode s pos).1 = c := ⟨_, rfl⟩; rw [hc] at hnx; have HC := Lib.hid hc; clear hc
   go_wp2
   obtain ⟨wo, rfl⟩ : ∃ wo : World, wo = wr := ⟨_, rfl⟩
   go_loopw [7] (fun b wi => ∃ k : Nat, k ≤ set.size ∧ b = .bool (inTake set k c) ∧ wi.heap[w1.heap.size]? = some (.stringIter set k) ∧ (∀ j, j ≠ w1.heap.size → j < w1.heap.size → wi.heap[j]? = w1.heap[j]?) ∧ Below w.heap.size w wi) (fun _ wi => set.size - wi.iterPos w1.heap.size)
   case atStart => exact ⟨0, Nat.zero_le _, by rw [inTake_zero], World.iter_heap w1 set 0, fun j hj _ => iter_other _ _ _ _ hj, below_iter hb1 (by omega) _ _⟩
   case round =>
    obtain ⟨k, hk, rfl, hitk, hoth, hbk⟩ := hrel; by_cases hks : k < set.size
    ·obtain ⟨w2, hnx2, hit2, hsz2, hoth2, hbel2⟩ := next_named (P := Tryz.prog) wr w1.heap.size set k hitk hks; have ha := HA.out k hks; have hd : Utf8.decode set k = ((set[k]'hks).toNat, 1) := decode_ascii set k hks ha; rw [hd] at hnx2 hit2; have hb2 := hbel2 _ _ (by omega) hbk; have hsuc := inTake_succ set k c hks; have HSUC := Lib.hid hsuc; clear hsuc; have hpi : wr.iterPos w1.heap.size = k := iterPos_of hitk; have HPI2 := Lib.hid hpi; clear hpi; have HO := Lib.hid hoth; have HO2 := Lib.hid hoth2; have HI2 := Lib.hid hit2; clear hoth hoth2 hit2 hd hsz2; obtain ⟨d, hdd⟩ : ∃ d, (set[k]'hks).toNat = d := ⟨_, rfl⟩; rw [hdd] at hnx2 HSUC; clear hdd ha; obtain ⟨q, hq⟩ : ∃ q, inTake set k c = q := ⟨_, rfl⟩; rw [hq]; rw [hq] at HSUC; cases q
     ·by_cases hcd : c = d
      ·have hcdb : ((c : Int) == (d : Int)) = true := by simp [hcd]
       go_wp2
       go_roundw
       case rel => exact ⟨k + 1, by omega, by rw [HSUC.out]; simp [hcd], HI2.out, fun j h1 h2 => (HO2.out j h1).trans (HO.out j h1 h2), hb2⟩
       case measure => rw [HPI2.out, iterPos_of HI2.out]; show set.size - (k + 1) < set.size - k; omega
      ·have hcdb : ((c : Int) == (d : Int)) = false := by simp; omega
       go_wp2
       go_roundw
       case rel => exact ⟨k + 1, by omega, by rw [HSUC.out]; simp; omega, HI2.out, fun j h1 h2 => (HO2.out j h1).trans (HO.out j h1 h2), hb2⟩
       case measure => rw [HPI2.out, iterPos_of HI2.out]; show set.size - (k + 1) < set.size - k; omega
     ·go_wp2
      go_roundw
      case rel => exact ⟨k + 1, by omega, by rw [HSUC.out]; simp, HI2.out, fun j h1 h2 => (HO2.out j h1).trans (HO.out j h1 h2), hb2⟩
      case measure => rw [HPI2.out, iterPos_of HI2.out]; show set.size - (k + 1) < set.size - k; omega
    ·have hnx2 : ∀ ty, (Instr.next (.pointer (some ⟨w1.heap.size, 0, none⟩)) true ty).run Tryz.prog wr = _ := fun ty => run_next_end_at wr w1.heap.size set k ty hitk hks; (obtain rfl : k = set.size := by omega); have HO := Lib.hid hoth; clear hoth hitk; obtain ⟨q, hq⟩ : ∃ q, inTake set set.size c = q := ⟨_, rfl⟩; rw [hq]; have HQ := Lib.hid hq; clear hq; cases q
     ·have hps : (pos : Int) ≤ (s.size : Int) := by omega
      go_wp2
      go_ret; exact ⟨_, rfl, CutL_stop s set HA.out pos hp (by rw [HC.out]; exact HQ.out), hbk⟩
     ·have hst := CutL_step s set HA.out pos hp (by rw [HC.out]; exact HQ.out); have HST := Lib.hid hst; clear hst
      go_wp2
      go_roundw
      case rel => exact ⟨pos + 1, by omega, fun i h hi => CutL_more s set pos HALL.out (HST.out.2) i h hi, by rw [HO.out _ (by omega) hlt1, HIT1.out, HST.out.1], hbk⟩
      case measure => rw [HPI.out, iterPos_of (by rw [HO.out _ (by omega) hlt1]; exact HIT1.out), HST.out.1]; omega
  ·have hnx : ∀ ty, (Instr.next (.pointer (some ⟨w.heap.size, 0, none⟩)) true ty).run Tryz.prog wr = _ := fun ty => run_next_end_at wr w.heap.size s pos ty hit hp; clear hit
   go_wp2
   go_ret; exact ⟨_, rfl, .inl ⟨rfl, fun i h => HALL.out i h (by omega)⟩, hb⟩
end Go.Proofs.YtopmcoohdhlnaaaGreatDoor.G
/- The program's cutRight, at a text whose first letter is none of the set: something is left; and check over it and cutLeft: whether words are too long, or hold another letter than a set's. -/
namespace Go.Proofs.YtopmcoohdhlnaaaGreatDoor.G
open Go.RowKit Go.Lib
set_option linter.unusedVariables false
theorem getD_byte (s : ByteArray) (i : Nat) (h : i < s.size) : (s.data.toList.getD i 0) = s[i]'h := by
 rw [List.getD_eq_getElem?_getD, List.getElem?_eq_getElem (by simpa using h)]; rfl
/-- The rune that is decoded at the end, if it is one of an ASCII set: it is the last byte alone. -/
theorem last_in (s set : ByteArray) (ha : Ascii set) (h0 : 0 < s.size) (hc : inSet set (decodeLastL s.data.toList).1 = true) :
  (decodeLastL s.data.toList).2 = 1 ∧ inSet set (s[s.size - 1]'(by omega)).toNat = true := by
 have hl : s.data.toList.length = s.size := (Lib.size_eq s).symm; (have ht : s.data.toList.take s.size = s.data.toList := by rw [List.take_of_length_le (by omega)]); have h := last_cases s.data.toList s.size h0 (by omega); rw [ht, getD_byte s (s.size - 1) (by omega)] at h
 have high : ∀ c, 128 ≤ c → inSet set c = true → False := fun c h1 h2 => by
  unfold inSet at h2; rw [inTake_high set ha _ c (Nat.le_refl _) h1] at h2; cases h2
 rcases h with ⟨h1, h2⟩ | ⟨h1, h2⟩ | ⟨h1, st, hst, h2, h3⟩
 ·rw [h2] at hc ⊢; exact ⟨rfl, hc⟩
 ·rw [h2] at hc; exact (high _ (by omega) hc).elim
 ·exfalso; rw [h2] at hc; refine high _ ?_ hc; rw [decodeL_drop] at h2 h3 ⊢; by_cases hb : (s[st]'hst).toNat < 128
  ·rw [decode_ascii s st hst hb] at h3
   have : st = s.size - 1 := by simp at h3; omega
   subst this; omega
  ·exact (decode_high s st hst (by omega)).1
/-- A text whose first letter is none of the set. -/
def Bad0 (set t : ByteArray) : Prop := ∃ h : 0 < t.size, inSet set (t[0]'h).toNat = false
theorem bad0_cut (set t : ByteArray) (ha : Ascii set) (h : Bad0 set t) (hc : inSet set (decodeLastL t.data.toList).1 = true) : (decodeLastL t.data.toList).2 = 1 ∧ 2 ≤ t.size ∧ Bad0 set (t.extract 0 (t.size - 1)) := by
 obtain ⟨h0, hb⟩ := h; obtain ⟨h1, h2⟩ := last_in t set ha h0 hc
 have hne : t.size ≠ 1 := by
  intro e
  have : t.size - 1 = 0 := by omega
  simp only [this] at h2; rw [h2] at hb; cases hb
 refine ⟨h1, by omega, ?_⟩; (have hs : (t.extract 0 (t.size - 1)).size = t.size - 1 := by rw [ByteArray.size_extract]; omega); refine ⟨by omega, ?_⟩; rw [ByteArray.getElem_extract]; simpa using hb
def CutRPost (w : World) (e : Ending) (w' : World) : Prop := ∃ r : ByteArray, e = .returned (.string r) ∧ 0 < r.size ∧ Below w.heap.size w w'
def lenOf : Value → Nat
 | .string s => s.size
 | _ => 0
set_option maxHeartbeats 1000000 in
set_option maxRecDepth 100000 in
theorem cutRight_calls (s set : ByteArray) (w : World) (ha : Ascii set) (hb0 : Bad0 set s) (hs : s.size ≤ 9223372036854775807) (hset : set.size ≤ 9223372036854775807) (hT : Utf8Tabs 1 2 w) :
  Calls Tryz.prog 76 #[.string s, .string set] w (CutRPost w) := by
 have HA := Lib.hid ha; clear ha; have HT := Lib.hid hT; clear hT; have HS0 := Lib.hid hb0; clear hb0; go_enter Tryz.func76, Tryz.ntmps76
 go_wp2
 go_loopw [0] (fun v wr => ∃ t : ByteArray, v = .string t ∧ Hid (Bad0 set t) ∧ t.size ≤ s.size ∧ Below w.heap.size w wr) (fun v _ => lenOf v)
 case atStart => exact ⟨s, rfl, HS0, Nat.le_refl _, Below.refl _ _⟩
 case round =>
  obtain ⟨t, rfl, HB0, hts, hb⟩ := hrel; clear HS0; have h0 : 0 < t.size := HB0.out.1; have h0' : (0 : Int) < (t.size : Int) := by omega
  go_wp2_with fail
  refine (Tryz.utf8_DecodeLastRuneInString t _ (by omega) (tabs_below HT.out hb)).mono ?_; obtain ⟨c, hc⟩ : ∃ c, (decodeLastL t.data.toList).1 = c := ⟨_, rfl⟩; obtain ⟨n, hn⟩ : ∃ n, (decodeLastL t.data.toList).2 = n := ⟨_, rfl⟩; rw [hc, hn]; have HC := Lib.hid hc; have HN := Lib.hid hn; clear hc hn; rintro e w1 ⟨rfl, hbw⟩; have hb1 : Below w.heap.size w w1 := hb.trans (hbw.mono hb.size); clear hb hbw
  go_wp2
  obtain ⟨wo, rfl⟩ : ∃ wo : World, wo = wr := ⟨_, rfl⟩
  go_loopw [7] (fun b wi => ∃ k : Nat, k ≤ set.size ∧ b = .bool (inTake set k c) ∧ wi.heap[w1.heap.size]? = some (.stringIter set k) ∧ Below w.heap.size w wi) (fun _ wi => set.size - wi.iterPos w1.heap.size)
  case atStart => exact ⟨0, Nat.zero_le _, by rw [inTake_zero], World.iter_heap w1 set 0, below_iter hb1 hb1.size _ _⟩
  case round =>
   obtain ⟨k, hk, rfl, hitk, hbk⟩ := hrel; by_cases hks : k < set.size
   ·obtain ⟨w2, hnx2, hit2, hsz2, hoth2, hbel2⟩ := next_named (P := Tryz.prog) wr w1.heap.size set k hitk hks; have ha := HA.out k hks; have hd : Utf8.decode set k = ((set[k]'hks).toNat, 1) := decode_ascii set k hks ha; rw [hd] at hnx2 hit2; have hb2 := hbel2 _ _ hb1.size hbk; have hsuc := inTake_succ set k c hks; have HSUC := Lib.hid hsuc; clear hsuc; have hpi : wr.iterPos w1.heap.size = k := iterPos_of hitk; have HPI2 := Lib.hid hpi; clear hpi; have HI2 := Lib.hid hit2; clear hoth2 hit2 hd hsz2; obtain ⟨d, hdd⟩ : ∃ d, (set[k]'hks).toNat = d := ⟨_, rfl⟩; rw [hdd] at hnx2 HSUC; clear hdd ha; obtain ⟨q, hq⟩ : ∃ q, inTake set k c = q := ⟨_, rfl⟩; rw [hq]; rw [hq] at HSUC; cases q
    ·by_cases hcd : c = d
     ·have hcdb : ((c : Int) == (d : Int)) = true := by simp [hcd]
      go_wp2
      go_roundw
      case rel => exact ⟨k + 1, by omega, by rw [HSUC.out]; simp [hcd], HI2.out, hb2⟩
      case measure => rw [HPI2.out, iterPos_of HI2.out]; show set.size - (k + 1) < set.size - k; omega
     ·have hcdb : ((c : Int) == (d : Int)) = false := by simp; omega
      go_wp2
      go_roundw
      case rel => exact ⟨k + 1, by omega, by rw [HSUC.out]; simp; omega, HI2.out, hb2⟩
      case measure => rw [HPI2.out, iterPos_of HI2.out]; show set.size - (k + 1) < set.size - k; omega
    ·go_wp2
     go_roundw
     case rel => exact ⟨k + 1, by omega, by rw [HSUC.out]; simp, HI2.out, hb2⟩
     case measure => rw [HPI2.out, iterPos_of HI2.out]; show set.size - (k + 1) < set.size - k; omega
   ·have hnx2 : ∀ ty, (Instr.next (.pointer (some ⟨w1.heap.size, 0, none⟩)) true ty).run Tryz.prog wr = _ := fun ty => run_next_end_at wr w1.heap.size set k ty hitk hks; (obtain rfl : k = set.size := by omega); clear hitk; obtain ⟨q, hq⟩ : ∃ q, inTake set set.size c = q := ⟨_, rfl⟩; rw [hq]; have HQ := Lib.hid hq; clear hq; cases q
    ·go_wp2
     go_ret; exact ⟨_, rfl, h0, hbk⟩
    ·obtain ⟨hn1, h2, HB1⟩ := bad0_cut set t HA.out HB0.out (by rw [HC.out]; exact HQ.out); rw [HN.out] at hn1; have HB2 := Lib.hid HB1; clear HB1; obtain ⟨m, hm⟩ : ∃ m, m = t.size - 1 := ⟨_, rfl⟩; (have hsub : (t.size : Int) - (n : Int) = (m : Int) := by omega); rw [← hm] at HB2; (have hms : m ≤ t.size := by omega); (have hsz : (t.extract 0 m).size = m := by rw [ByteArray.size_extract]; omega); have HSZ := Lib.hid hsz; have HM := Lib.hid hm; clear hsz hm hn1
     go_wp2
     exact ⟨⟨_, rfl, HB2, by rw [HSZ.out]; omega, hbk⟩, by show (t.extract 0 m).size < t.size; rw [HSZ.out, HM.out]; omega⟩
end Go.Proofs.YtopmcoohdhlnaaaGreatDoor.G
/- The program's check: whether words are too long, or hold another letter than a set's, for a set of ASCII letters. -/
namespace Go.Proofs.YtopmcoohdhlnaaaGreatDoor.G
open Go.RowKit Go.Lib Go.Proofs.YtopmcoohdhlnaaaGreatDoorW.PrintWords Go.Proofs.YtopmcoohdhlnaaaGreatDoorW.PrintLast Go.Proofs.YtopmcoohdhlnaaaGreatDoorW.PrintMore
set_option linter.unusedVariables false
/-- Does a word hold a letter that is none of the set? -/
def badWord (set x : ByteArray) : Bool := x.data.toList.any fun b => !inSet set b.toNat
theorem badWord_true {set x : ByteArray} (i : Nat) (h : i < x.size) (hb : inSet set (x[i]'h).toNat = false) : badWord set x = true := by
 unfold badWord; rw [List.any_eq_true]; exact ⟨x[i]'h, by simp [ByteArray.getElem_eq_getElem_data], by simp [hb]⟩
theorem badWord_false {set x : ByteArray} (h : ∀ i (h : i < x.size), inSet set (x[i]'h).toNat = true) : badWord set x = false := by
 unfold badWord; rw [List.any_eq_false]; intro b hb; obtain ⟨i, hi, rfl⟩ := List.getElem_of_mem hb; have := h i (by simpa using hi); simpa [ByteArray.getElem_eq_getElem_data] using this
theorem bad0_extract {set s : ByteArray} (i : Nat) (h : i < s.size) (hb : inSet set (s[i]'h).toNat = false) : Bad0 set (s.extract i s.size) := by
 (have hs : (s.extract i s.size).size = s.size - i := by rw [ByteArray.size_extract]; omega); refine ⟨by omega, ?_⟩; rw [ByteArray.getElem_extract]; simpa using hb
/-- The sets of letters that the program hands to check: they are ASCII. -/
def okSet (s : ByteArray) : Bool := s.data.toList.all fun b => decide (b.toNat < 128)
theorem okSet_ascii {s : ByteArray} (h : okSet s = true) : Ascii s := by
 intro i hi; unfold okSet at h; rw [List.all_eq_true] at h; have := h (s[i]'hi) (by simp [ByteArray.getElem_eq_getElem_data]); simpa using this
def mark_check.f (a0 : Int) (a1 : ByteArray) (l2 : List ByteArray) : Option Int :=
 if okSet a1 = true ∧ a1.size ≤ 1000 ∧ a0 ≤ 1000000 ∧ l2.length ≤ 1000 then
  some (if l2.any (fun x => decide (a0 < (x.size : Int))) = true then 3 else if l2.any (badWord a1) = true then 2 else 0)
 else none
theorem any_take_succ {α : Type} (p : α → Bool) (l : List α) (k : Nat) (h : k < l.length) : (l.take (k + 1)).any p = ((l.take k).any p || p (l[k]'h)) := by
 rw [List.take_succ_eq_append_getElem h, List.any_append]; simp
theorem rd_nat (l : List ByteArray) (k : Nat) (h : k < l.length) : rdOf ByteArray.empty l (k : Int) = l[k]'h := by
 unfold rdOf; simp [h]
theorem any_of_take {α : Type} (p : α → Bool) (l : List α) (k : Nat) (h : k < l.length) (hp : p (l[k]'h) = true) : l.any p = true := List.any_eq_true.2 ⟨_, List.getElem_mem h, hp⟩
theorem not_empty {z : ByteArray} (h : 0 < z.size) : z.toList.isEmpty = false := by
 rw [toList_data]
 cases z with
 | mk d => cases d with
  | mk l => cases l with
   | nil => simp [ByteArray.size] at h
   | cons a b => rfl
theorem cutRight_empty (set : ByteArray) (w : World) : Calls Tryz.prog 76 #[.string ⟨#[]⟩, .string set] w fun e w' => e = .returned (.string ⟨#[]⟩) ∧ w = w' := by
 go_enter Tryz.func76, Tryz.ntmps76
 go_wp2
 refine wp_loop_rounds 1 ?_; rw [rounds_succ]
 go_wp2
 go_ret; exact ⟨rfl, rfl⟩
set_option maxHeartbeats 2000000 in
set_option maxRecDepth 100000 in
theorem mark_check.calls (a0 : Int) (a1 : ByteArray) (A2 : Option Addr) (c2 : Nat) (l2 : List ByteArray) (r : Int) (w : World) (hr2 : Kd.C Kd.string w A2 l2.length l2) (hc2 : l2.length ≤ c2) (hT : Lib.Utf8Tabs 1 2 w) (h : mark_check.f a0 a1 l2 = some r) :
  Calls Tryz.prog 49 #[.int .i64 a0, .string a1, .slice A2 l2.length c2] w fun e w' => e = .returned (.int .i64 r) ∧ Below w.heap.size w w' := by
 unfold mark_check.f at h; split at h
 case isFalse => cases h
 case isTrue hg =>
 obtain ⟨hok, hsz, h1000, hln⟩ := hg; have HA := Lib.hid (okSet_ascii hok); clear hok; have HR := Lib.hid hr2; clear hr2; have HT := Lib.hid hT; clear hT; have HH := Lib.hid h; clear h; clear hc2; go_enter Tryz.func49, Tryz.ntmps49
 go_wp2
 go_loop [13] (fun i => ∃ k : Nat, k ≤ l2.length ∧ i = .int .i64 k ∧ Hid ((l2.take k).any (fun x => decide (a0 < (x.size : Int))) = false)) (fun i => l2.length - (RowKit.intOf i).toNat)
 case atStart => exact ⟨0, Nat.zero_le _, rfl, Lib.hid (by simp)⟩
 case round =>
  obtain ⟨k, hk, rfl, HALL⟩ := hrel; by_cases hlt : k < l2.length
  ·obtain ⟨ad, e2, hx⟩ := Kd.at_string HR.out (k : Int) (by omega) (by omega); cases e2; rw [rd_nat l2 k hlt, Int.toNat_natCast] at hx; obtain ⟨x, hxx⟩ : ∃ x, l2[k]'hlt = x := ⟨_, rfl⟩; rw [hxx] at hx; have HX := Lib.hid hxx; clear hxx; have HSUC := Lib.hid (any_take_succ (fun x => decide (a0 < (x.size : Int))) l2 k hlt); by_cases hbig : a0 < (x.size : Int)
   ·go_wp2
    go_ret; refine ⟨?_, Below.refl _ _⟩; have := HH.out; rw [if_pos (any_of_take _ l2 k hlt (by rw [HX.out]; simpa using hbig))] at this; cases this; rfl
   ·go_wp2
    go_round
    case rel => exact ⟨k + 1, by omega, by go_num, Lib.hid (by rw [HSUC.out, HALL.out, HX.out]; simpa using hbig)⟩
    case measure => simp [RowKit.intOf]; omega
  ·(obtain rfl : k = l2.length := by omega); have HALL' : Hid (l2.any (fun x => decide (a0 < (x.size : Int))) = false) := Lib.hid (by have := HALL.out; rwa [List.take_of_length_le (Nat.le_refl _)] at this); clear HALL
   go_wp2
   go_loopw [24] (fun i wr => ∃ k : Nat, k ≤ l2.length ∧ i = .int .i64 k ∧ Hid ((l2.take k).any (badWord a1) = false) ∧ Below w.heap.size w wr) (fun i _ => l2.length - (RowKit.intOf i).toNat)
   case atStart => exact ⟨0, Nat.zero_le _, rfl, Lib.hid (by simp), Below.refl _ _⟩
   case round =>
    obtain ⟨k, hk, rfl, HALL, hb⟩ := hrel; by_cases hlt : k < l2.length
    ·obtain ⟨ad, e2, hx⟩ := Kd.at_string (Kd.C_below HR.out hb) (k : Int) (by omega) (by omega); cases e2; rw [rd_nat l2 k hlt, Int.toNat_natCast] at hx
     have hsmall : ((l2[k]'hlt).size : Int) ≤ a0 := by
      have := List.any_eq_false.1 HALL'.out _ (List.getElem_mem hlt); simpa using this
     obtain ⟨x, hxx⟩ : ∃ x, l2[k]'hlt = x := ⟨_, rfl⟩; rw [hxx] at hx hsmall; have HX := Lib.hid hxx; clear hxx; have HSUC := Lib.hid (any_take_succ (badWord a1) l2 k hlt); have hxs : x.size ≤ 9223372036854775807 := by omega
     go_wp2_with fail
     refine (cutLeft_calls x a1 _ HA.out hxs (by omega)).mono ?_; rintro e w1 ⟨y, rfl, hy, hb1⟩; have hb2 : Below w.heap.size w w1 := hb.trans (hb1.mono hb.size); clear hb hb1 hx; rcases hy with ⟨rfl, hall⟩ | ⟨i, hi, rfl, hbad⟩
     ·have HG := Lib.hid (badWord_false hall); clear hall
      go_wp2_with fail
      refine (cutRight_empty a1 _).mono ?_; rintro e w2 ⟨rfl, rfl⟩
      go_wp2
      go_roundw
      case rel => exact ⟨k + 1, by omega, by go_num, Lib.hid (by rw [HSUC.out, HALL.out, HX.out, HG.out]; rfl), hb2⟩
      case measure => simp [RowKit.intOf]; omega
     ·have HG := Lib.hid (badWord_true i hi hbad); have HB0 := Lib.hid (bad0_extract i hi hbad); (have hys : (x.extract i x.size).size ≤ 9223372036854775807 := by rw [ByteArray.size_extract]; omega); clear hbad
      go_wp2_with fail
      refine (cutRight_calls _ a1 _ HA.out HB0.out hys (by omega) (tabs_below HT.out hb2)).mono ?_; rintro e w2 ⟨z, rfl, hz, hb3⟩; have hb4 : Below w.heap.size w w2 := hb2.trans (hb3.mono hb2.size); clear hb2 hb3; have hzl : z.toList.isEmpty = false := not_empty hz
      go_wp2
      go_ret; refine ⟨?_, hb4⟩; have := HH.out; rw [if_neg (by rw [HALL'.out]; simp), if_pos (any_of_take _ l2 k hlt (by rw [HX.out]; exact HG.out))] at this; cases this; rfl
    ·obtain rfl : k = l2.length := by omega
     go_wp2
     go_ret; refine ⟨?_, hb⟩; have := HH.out; rw [if_neg (by rw [HALL'.out]; simp), if_neg (by have := HALL.out; rw [List.take_of_length_le (Nat.le_refl _)] at this; rw [this]; simp)] at this; cases this; rfl
end Go.Proofs.YtopmcoohdhlnaaaGreatDoor.G
namespace Go.Proofs.YtopmcoohdhlnaaaGreatDoor.G
open Go.RowKit Go.Lib Go.Proofs.YtopmcoohdhlnaaaGreatDoorW.PrintWords Go.Proofs.YtopmcoohdhlnaaaGreatDoorW.PrintLast Go.Proofs.YtopmcoohdhlnaaaGreatDoorW.PrintMore
set_option linter.unusedVariables false
/-- Words, one after the other. -/
def catB (l : List ByteArray) : ByteArray := ⟨(l.map (·.data.toList)).flatten.toArray⟩
theorem join_nil : ∀ l : List (List UInt8), Lib.join l [] = l.flatten
 | [] => rfl
 | [x] => by simp [Lib.join]
 | x :: y :: r => by
  have h := join_nil (y :: r); unfold Lib.join at h ⊢; rw [List.intercalate_cons_cons]; rw [h]; simp
def mark_joined.f (l0 : List ByteArray) : Option ByteArray := if (catB l0).size ≤ 1000000 ∧ l0.length ≤ 1000000 then some (catB l0) else none
set_option maxHeartbeats 2000000 in
set_option maxRecDepth 100000 in
theorem mark_joined.calls (A0 : Option Addr) (c0 : Nat) (l0 : List ByteArray) (r : ByteArray) (w : World) (hr0 : Kd.C Kd.string w A0 l0.length l0) (hc0 : l0.length ≤ c0) (h : mark_joined.f l0 = some r) :
  Calls Tryz.prog 45 #[.slice A0 l0.length c0] w fun e w' => e = .returned (.string r) ∧ Below w.heap.size w w' := by
 unfold mark_joined.f at h; split at h
 case isFalse => cases h
 case isTrue hg =>
 obtain ⟨hsz, hln⟩ := hg; obtain rfl := Option.some.inj h
 have hl : (Lib.join (l0.map (·.data.toList)) []).length ≤ 140737488355328 := by
  rw [join_nil]
  have : (catB l0).size = (l0.map (·.data.toList)).flatten.length := by simp [catB, ByteArray.size]
  omega
 have hj : (⟨(Lib.join (l0.map (·.data.toList)) []).toArray⟩ : ByteArray) = catB l0 := by rw [join_nil]; rfl
 cases hnil : l0 with
 | nil =>
  go_enter Tryz.func45, Tryz.ntmps45
  go_wp2_with fail
  refine (Any.strings_Join_none Tryz.lays156 Tryz.Builder_Extra_156 A0 c0 ⟨#[]⟩ w).mono ?_; rintro e w' ⟨rfl, rfl⟩
  go_wp2
  go_ret
  exact ⟨rfl, Below.refl _ _⟩
 | cons x rest =>
  rw [← hnil]; (have hpos : 0 < l0.length := by rw [hnil]; simp); clear hnil; obtain ⟨ad, e0, hx0⟩ := Kd.at_string hr0 0 (by omega) (by omega); subst e0; obtain ⟨b, o, sp⟩ := ad; (have hsp : sp = none := by simpa [Addr.add] using World.cell?_spot hx0); subst hsp; have hb : b < w.heap.size := World.block_lt_of_cell? _ _ hx0
  have hcells : ∀ (j : Nat) x, l0[j]? = some x → w.cell? ⟨b, o + j, none⟩ = some (.string x) := by
   intro j x hj; obtain ⟨hlt, rfl⟩ := List.getElem?_eq_some_iff.1 hj; obtain ⟨ad, e1, hx⟩ := Kd.at_string hr0 (j : Int) (by omega) (by omega); cases e1
   have : rdOf ByteArray.empty l0 (j : Int) = l0[j] := by unfold rdOf; simp [hlt]
   rw [this] at hx; rw [Int.toNat_natCast] at hx
   have e : (⟨b, o, none⟩ : Addr).add j = ⟨b, o + j, none⟩ := by
    unfold Addr.add; split
    ·subst_vars; rfl
    ·rfl
   rwa [e] at hx
  have HC := Lib.hid hcells; clear hcells hr0 hx0; have HJ := Lib.hid hj; clear hj; have HL := Lib.hid hl; clear hl; clear h; go_enter Tryz.func45, Tryz.ntmps45
  go_wp2_with fail
  refine (Tryz.strings_Join b o c0 l0 ⟨#[]⟩ w HC.out hb (by omega) hc0 HL.out).mono ?_; rintro e w' ⟨rfl, hb1⟩
  go_wp2
  go_ret; exact ⟨by rw [← HJ.out]; rfl, hb1⟩
end Go.Proofs.YtopmcoohdhlnaaaGreatDoor.G
namespace Go.Proofs.YtopmcoohdhlnaaaGreatDoor.G
open Go Go.RowKit Go.Lib Go.Sort Go.Proofs Go.Proofs.YtopmcoohdhlnaaaGreatDoorW.PrintWords Go.Proofs.YtopmcoohdhlnaaaGreatDoorW.PrintLast Go.Proofs.YtopmcoohdhlnaaaGreatDoorW.PrintMore
set_option linter.unusedVariables false
/-- The words' bytes, and words of bytes. -/
def bytesL (l : List ByteArray) : List (List UInt8) := l.map (·.data.toList)
def wordsL (l : List (List UInt8)) : List ByteArray := l.map fun x => ⟨x.toArray⟩
theorem encs_bytes (l : List ByteArray) : encs Value.string l = (bytesL l).map encStr := by
 simp [encs, bytesL, encStr, Function.comp_def]
theorem encs_words (l : List (List UInt8)) : encs Value.string (wordsL l) = l.map encStr := by
 simp [encs, wordsL, encStr, Function.comp_def]
def sortB (l : List (List UInt8)) : List (List UInt8) := l.mergeSort fun x y => decide (x ≤ y)
def SortPost (l : List ByteArray) (v : Value) (B : Nat) (w : World) (e : Ending) (w' : World) : Prop := e = .returned (.tuple #[]) ∧ w'.ownsRow B 9 1 v (sortB (bytesL l)).length ((sortB (bytesL l)).map encStr) ∧ Below B w w'
theorem sort_owns (l : List ByteArray) (v : Value) (B : Nat) (w : World) (hown : w.ownsRow B 9 1 v l.length (encs Value.string l)) (hB : B ≤ w.heap.size) (hn : l.length ≤ 1000000) :
  Calls Tryz.prog 78 #[v] w (SortPost l v B w) := by
 rw [encs_bytes] at hown; (have hlen : (bytesL l).length = l.length := by simp [bytesL]); (have hsl : (sortB (bytesL l)).length = l.length := by simp [sortB, hlen]); rcases hown.2 with ⟨rfl, h0⟩ | ⟨g, cap, cur, rfl, hbase, hb, h1, h2, h3, h4⟩
 ·have hnil : l = [] := List.eq_nil_of_length_eq_zero h0; subst hnil; refine (Any.slices_Sort_string_none Tryz.lays190 none 0 w).mono ?_; rintro e w' ⟨rfl, rfl⟩; exact ⟨rfl, by simpa [sortB, bytesL] using hown, Below.refl _ _⟩
 ·have hH : Holds encStr w g 0 (bytesL l).toArray := holds_of_block hb (by rw [hlen]; simpa using h4); have hc := Tryz.slices_Sort_string g 0 cap (bytesL l) w hH (Array.getElem?_eq_some_iff.1 hb).1 (by omega); rw [hlen] at hc; refine hc.mono ?_; rintro e w' ⟨rfl, n, os, rfl⟩; refine ⟨rfl, ?_, (Below.refl _ _).grown (grownBy_sorted _) hB (fun j hj => by cases hj; exact hbase)⟩; have := ownsRow_sorted (n := n) (os := os) (ss := bytesL l) (ts := sortB (bytesL l)) (by rw [hsl, hlen]) hbase hb (by omega) h2 h3; rw [hlen] at this; rw [hsl]; exact this
def CompPost (s : List (List UInt8)) (B : Nat) (w : World) (e : Ending) (w' : World) : Prop := ∃ v', e = .returned v' ∧ w'.ownsRow B 9 1 v' (Lib.compact s).length ((Lib.compact s).map encStr) ∧ Below B w w'
theorem compact_owns (s : List (List UInt8)) (v : Value) (B : Nat) (w : World) (hown : w.ownsRow B 9 1 v s.length (s.map encStr)) (hB : B ≤ w.heap.size) (hn : s.length ≤ 1000000) :
  Calls Tryz.prog 79 #[v] w (CompPost s B w) := by
 rcases hown.2 with ⟨rfl, h0⟩ | ⟨g, cap, cur, rfl, hbase, hb, h1, h2, h3, h4⟩
 ·have hnil : s = [] := List.eq_nil_of_length_eq_zero h0; subst hnil; refine (Tryz.slices_Compact_string_empty none 0 w).mono ?_; rintro e w' ⟨rfl, rfl⟩; exact ⟨_, rfl, by simpa [Lib.compact, compactUpTo] using hown, Below.refl _ _⟩
 ·have hH : Holds encStr w g 0 s.toArray := holds_of_block hb (by simpa using h4); refine (Tryz.slices_Compact_string g 0 cap s w hH (by omega) (by omega)).mono ?_; rintro e w' ⟨rfl, q, rfl⟩
  have hcl : (Lib.compact s).length ≤ s.length := by
   unfold Lib.compact compactUpTo; rw [List.length_map]; exact Nat.le_trans (List.length_filter_le _ _) (by simp)
  obtain ⟨ts, hts⟩ : ∃ ts, ts = Lib.compact s ++ List.replicate (s.length - (Lib.compact s).length) ([] : List UInt8) := ⟨_, rfl⟩; (have htl : ts.length = s.length := by rw [hts]; simp; omega); have ho := ownsRow_sorted (n := q) (os := #[]) (ss := s) (ts := ts) htl hbase hb (by omega) h2 h3; have hg := grownBy_sorted (w := w) (g := g) (n := q) (os := #[]) ts.toArray; (have eg : ∀ W : World, grow W #[] = W := fun W => by simp [grow]); rw [eg] at ho hg; rw [← hts]; refine ⟨_, rfl, ?_, (Below.refl _ _).grown hg hB (fun j hj => by cases hj; exact hbase)⟩; refine ⟨by simp, .inr ?_⟩; rcases ho.2 with ⟨h, _⟩ | ⟨g', cap', cur', hv, hbase', hb', h1', h2', h3', h4'⟩
  ·cases h
  ·cases hv; refine ⟨g, cap, cur', rfl, hbase', hb', by omega, h2', h3', ?_⟩; rw [Nat.mul_one] at h4' ⊢
   have : (cur'.toList.take s.length).take (Lib.compact s).length = (ts.map encStr).take (Lib.compact s).length := by rw [h4']
   rw [List.take_take, Nat.min_eq_left hcl] at this; rw [this, hts, List.map_append, List.take_append_of_le_length (by simp), List.take_of_length_le (by simp)]
end Go.Proofs.YtopmcoohdhlnaaaGreatDoor.G
namespace Go.Proofs.YtopmcoohdhlnaaaGreatDoor.Pa
open Go.RowKit Go.Proofs.YtopmcoohdhlnaaaGreatDoorW.PrintWords Go.Proofs.YtopmcoohdhlnaaaGreatDoorW.PrintLast Go.Proofs.YtopmcoohdhlnaaaGreatDoorW.PrintMore
attribute [local go_sem] max2_int min2_int max_two min_two max_three min_three max_four min_four   -- for this text's walks alone
set_option linter.unusedVariables false
set_option linter.unusedSimpArgs false
def errW : Option Int → Value
 | none => .nilIface
 | some c => .iface 0 (.int .i64 c)
theorem errW_none : errW none = .nilIface := rfl
theorem errW_some (c : Int) : errW (some c) = .iface 0 (.int .i64 c) := rfl
theorem info5 : (Tryz.prog.info? 5).map (fun i => (i.zero, i.size, i.bytes)) = some (some (.int .u8 0), 1, 1) := by kernel_rfl
theorem info9 : (Tryz.prog.info? 9).map (fun i => (i.zero, i.size, i.bytes)) = some (some (.string ⟨#[]⟩), 1, 16) := by kernel_rfl
theorem info26 : (Tryz.prog.info? 26).map (fun i => (i.zero, i.size, i.bytes)) = some (some (.slice none 0 0), 1, 24) := by kernel_rfl
end Go.Proofs.YtopmcoohdhlnaaaGreatDoor.Pa
namespace Go.Proofs.YtopmcoohdhlnaaaGreatDoor.G
open Go.RowKit Go.Lib Go.Sort Go.Proofs.YtopmcoohdhlnaaaGreatDoorW.PrintWords Go.Proofs.YtopmcoohdhlnaaaGreatDoorW.PrintLast Go.Proofs.YtopmcoohdhlnaaaGreatDoorW.PrintMore
attribute [local go_sem] max2_int min2_int max_two min_two max_three min_three max_four min_four
set_option linter.unusedVariables false
set_option linter.unusedSimpArgs false
theorem info9 : (Tryz.prog.info? 9).map (fun i => (i.zero, i.size, i.bytes)) = some (some (.string ⟨#[]⟩), 1, 16) := by kernel_rfl
/-- Words in byte order, each once. -/
def setL (l : List ByteArray) : List ByteArray := wordsL (Lib.compact (sortB (bytesL l)))
theorem setL_owns {w : World} {B : Nat} {v : Value} {l : List ByteArray} (h : w.ownsRow B 9 1 v (Lib.compact (sortB (bytesL l))).length ((Lib.compact (sortB (bytesL l))).map encStr)) : Kd.R Kd.string 9 w B (fun _ => True) v (setL l) := by
 refine Kd.R_of_own ?_ (fun _ _ => trivial); unfold setL; rw [encs_words]; simpa [wordsL] using h
def mark_shorter.l0 : Nat → ByteArray → List ByteArray → Int → Int → Option (List ByteArray)
 | 0, _, _, _, _ => none
 | k + 1, x0, x3, x6, x7 => if x7 < x6 then (if 0 ≤ x7 then (if x7 ≤ (x0.size : Int) then (if 0 ≤ (wrap64 (x7 + 1)) then (if (wrap64 (x7 + 1)) ≤ (x0.size : Int) then ((G.mark_joined.f (([x0.extract 0 (x7 : Int).toNat, x0.extract ((wrap64 (x7 + 1)) : Int).toNat x0.size] : List ByteArray))).bind fun t224 => (if x3.length < 8796093022208 then (mark_shorter.l0 k x0 (x3 ++ [t224]) x6 (wrap64 (x7 + 1))) else (none))) else (none)) else (none)) else (none)) else (none)) else (if x3.length ≤ 1000000 then (some (setL x3)) else (none))
def mark_shorter.f (k : Nat) (a0 : ByteArray) : Option (List ByteArray) := mark_shorter.l0 k a0 ([] : List ByteArray) (a0.size : Int) 0
theorem mark_shorter.mono_l : ∀ k, (∀ y0 y1 y2 y3, LeO (mark_shorter.l0 k y0 y1 y2 y3) (mark_shorter.l0 (k + 1) y0 y1 y2 y3))
 | 0 => fun _ _ _ _ r h => by simp [mark_shorter.l0] at h
 | k + 1 => by
  have ih0 := mark_shorter.mono_l k
  ·intro y0 y1 y2 y3; unfold mark_shorter.l0
   repeat' first
   | (with_reducible exact ih0 _ _ _ _)
   | (with_reducible exact LeO.refl _)
   | (with_reducible exact LeO.none _)
   | (with_reducible refine LeO.ite ?_ ?_)
   | (with_reducible refine LeO.bind ?_ (fun _ => ?_))
   | exact ih0 _ _ _ _
   | exact LeO.none _
   | refine LeO.ite ?_ ?_
   | refine LeO.bind ?_ (fun _ => ?_)
theorem mark_shorter.mono : ∀ a0 k, LeO (mark_shorter.f k a0) (mark_shorter.f (k + 1) a0) := by
 intro a0 k; have ih0 := mark_shorter.mono_l k; unfold mark_shorter.f
 repeat' first
   | (with_reducible exact ih0 _ _ _ _)
   | (with_reducible exact LeO.refl _)
   | (with_reducible exact LeO.none _)
   | (with_reducible refine LeO.ite ?_ ?_)
   | (with_reducible refine LeO.bind ?_ (fun _ => ?_))
   | exact ih0 _ _ _ _
   | exact LeO.none _
   | refine LeO.ite ?_ ?_
   | refine LeO.bind ?_ (fun _ => ?_)
def mark_shorter.T5 : Bool × List (List Nat × List Nat) := (true, [([], []), ([], []), ([], []), ([1, 2], [1, 2]), ([], []), ([], []), ([5], [5]), ([4, 6], [4, 6]), ([3, 7], [3, 7]), ([8], [8]), ([9], [9]), ([0, 10, 9], [0, 10]), ([11, 11, 0, 1, 2, 3, 4, 5, 6, 7, 8, 9, 10, 11], [0, 11])])
def mark_shorter.B5 : List Nat := [0, 0, 0, 6, 0, 0, 32, 112, 254, 510, 1022, 2047, 4095]
theorem mark_shorter.tab5 : rtab .any (opsOf Tryz.f52 5) = mark_shorter.T5 := by kernel_rfl
theorem mark_shorter.bits5 : waitsOk mark_shorter.T5.2 mark_shorter.B5 = true := by kernel_rfl
set_option maxHeartbeats 8000000 in
set_option maxRecDepth 100000 in
theorem mark_shorter.calls (k : Nat) (a0 : ByteArray) (r : List ByteArray) (w : World) (h : mark_shorter.f k a0 = some r) :
  Calls Tryz.prog 52 #[.string a0] w fun e w' => ∃ v0_ : Value, e = .returned (v0_) ∧ Kd.R Kd.string 9 w' w.heap.size (fun _ => True) v0_ r ∧ Below w.heap.size w w' := by
 have HB := aM (Below.refl w.heap.size w); have H : (mark_shorter.l0 k a0 ([] : List ByteArray) (a0.size : Int) 0) = some r := h; clear h; have H' := aM H; clear H; go_enter Tryz.func52, Tryz.ntmps52
 go_wp2
 go_loopg [3, 7] k (fun kq v3 v7 w' => ∃ (x3_1 : List ByteArray) (x7_1 : Int), v7 = .int .i64 x7_1 ∧ Aside0 (mark_shorter.l0 kq a0 x3_1 (a0.size : Int) x7_1 = some r) ∧ Aside0 (kq ≤ k) ∧ Aside0 (Kd.R Kd.string 9 w' w.heap.size (fun _ => True) v3 x3_1) ∧ Aside0 (Below w.heap.size w w'))
 case atStart => exact ⟨(([] : List ByteArray)), (0), tS, H', ⟨Nat.le_refl _⟩, ⟨by first | exact Kd.R_nil _ _ _ _ _ | exact Kd.N_nil _ _ _ _ _ | exact Kd.V_nil _ _ _ _ _ | exact Kd.Q_nil _ _ _ _ _ | exact Kd.S_nil _ _ _ _ _⟩, ⟨bB⟩⟩
 case round =>
  clear H'; obtain ⟨x3_1, x7_1, rfl, HA, HK1, HO_3, HB⟩ := hrel
  cases gk with
  | zero => exact absurd HA.out (by simp [mark_shorter.l0])
  | succ k1 =>
   have H := HA.out; clear HA; simp only [mark_shorter.l0] at H; by_cases c2 : x7_1 < (a0.size : Int)
   ·rw [if_pos c2] at H; have c2b0 := decide_eq_true c2; clear c2; by_cases c3 : 0 ≤ x7_1
    ·rw [if_pos c3] at H; have c3b0 := eq_true c3; have c3b1 := decide_eq_true c3; clear c3; by_cases c4 : x7_1 ≤ (a0.size : Int)
     ·rw [if_pos c4] at H; have c4b0 := eq_true c4; have c4b1 := decide_eq_true c4; clear c4; obtain ⟨ji5, hji5⟩ : ∃ j_ : Int, (wrap64 (x7_1 + 1)) = j_ := ⟨_, rfl⟩; (replace H : (if 0 ≤ (ji5) then (if (ji5) ≤ (a0.size : Int) then ((G.mark_joined.f (([a0.extract 0 (x7_1 : Int).toNat, a0.extract ((ji5) : Int).toNat a0.size] : List ByteArray))).bind fun t224 => (if x3_1.length < 8796093022208 then (mark_shorter.l0 k1 a0 (x3_1 ++ [t224]) (a0.size : Int) ji5) else (none))) else (none)) else (none)) = some r := by first | (rw [hji5] at H; exact H) | (simp only [hji5] at H ⊢; exact H)); have hji5w : (IntKind.i64.wrap (x7_1 + 1)) = ji5 := (i64_w _).trans hji5; by_cases c6 : 0 ≤ (ji5)
      ·rw [if_pos c6] at H; have c6b0 := eq_true c6; have c6b1 := decide_eq_true c6; clear c6; by_cases c7 : (ji5) ≤ (a0.size : Int)
       ·rw [if_pos c7] at H; have c7b0 := eq_true c7; have c7b1 := decide_eq_true c7; clear c7; obtain ⟨y221, hy221⟩ : ∃ y_ : List ByteArray, y_ = (([a0.extract 0 (x7_1 : Int).toNat, a0.extract ((ji5) : Int).toNat a0.size] : List ByteArray)) := ⟨_, rfl⟩; replace H : ((G.mark_joined.f y221).bind fun t224 => (if x3_1.length < 8796093022208 then (mark_shorter.l0 k1 a0 (x3_1 ++ [t224]) (a0.size : Int) ji5) else (none))) = some r := tH hy221 H; have Ny221 := aM hy221; clear hy221; replace H := Option.bind_eq_some_iff.mp H; obtain ⟨t224, A80, H⟩ := H; (try dsimp -simprocs only at H); have A8 := aM A80; clear A80; by_cases c9 : x3_1.length < 8796093022208
        ·rw [if_pos c9] at H; have LMc9 := aM c9; clear c9; obtain ⟨y225, hy225⟩ : ∃ y_ : List ByteArray, y_ = (x3_1 ++ [t224]) := ⟨_, rfl⟩; replace H : (mark_shorter.l0 k1 a0 y225 (a0.size : Int) ji5) = some r := tH hy225 H; have Ny225 := aM hy225; clear hy225; have H' := aM H; clear H; (try go_wp2); replace HO_3 := aM (Kd.R_drew HO_3.out); replace HB := aM (below_drew1 HB.out); refine start_ (n := 13) (S := fun w' => True) (ds := []) #[false, false, false, false, false, false, false, false, false, false, false, false, false] (by kernel_rfl) rfl rfl trivial (fun hHeld => ?_); refine with_tabW mark_shorter.tab5 mark_shorter.bits5 (fun HT_ HW_ => ?_); generalize wr.drew = w10 at HO_3 HB hHeld ⊢; refine pU 0 (some 10) ?_; refine pU 1 (some 11) ?_; refine pU 2 (some 12) ?_; refine pU 3 (some 13) ?_; refine pU 4 (some 14) ?_; refine pU 5 (some 15) ?_; refine pU 6 (some 16) ?_; refine pU 7 (some 17) ?_; refine oN 8 (some 18) (fun K hK => ?_); refine Kd.R_lit_step Kd.string _ 9 ?hg (N := 18) ?hd (xs := ([a0.extract 0 (x7_1 : Int).toNat, a0.extract ((ji5) : Int).toNat a0.size] : List ByteArray)) (inner := [.string (a0.extract 0 (x7_1 : Int).toNat), .string (a0.extract ((ji5) : Int).toNat a0.size)]) (ok := fun _ => True) (okp := fun _ => True) ?hr ?hp (fun _ hk => hk) trivial (Below.refl _ _) (Nat.le_refl _) (by simp) ?_; (case hd => rfl); (case hg => rfl); (case hr => first | (go_simp; done) | (go_simp; rfl)); (case hp => exact (Reps.one (show Kd.M Kd.string _ _ _ (a0.extract 0 (x7_1 : Int).toNat) [.string (a0.extract 0 (x7_1 : Int).toNat)] from rfl) (Reps.one (show Kd.M Kd.string _ _ _ (a0.extract ((ji5) : Int).toNat a0.size) [.string (a0.extract ((ji5) : Int).toNat a0.size)] from rfl) (Reps.none _ _)))); intro v222 w11 ho12 hb hg_ hnew_; clear hg_ hnew_; (first | rw [← Ny221.out] at ho12 | (simp only [Int.reduceToNat] at ho12; rw [← Ny221.out] at ho12)); have HO223 := aM (Kd.R_lower (Kd.R_new' ho12 (Kd.R_lt (vA HO_3.out))) (below_size bB)); replace HO_3 := aM (Kd.R_elder' (vA HO_3.out) (Kd.R_base ho12) hb); replace HB := aM (below_step bB hb); clear hb ho12; obtain ⟨Ao13, co13, eo13⟩ := Kd.R_slice HO223.out; (first | subst eo13 | (injection eo13 with f1_ f2_ f3_; have f4_ := f1_.symm; have f5_ := f3_.symm; clear f1_ f2_ f3_; subst f4_; subst f5_)); refine hK.out _ _ trivial (fun hHeld => ?_); clear hK K; refine norm_ (a' := ?_) ?_ ?_; rotate_left
         ·show Act.put _ (some 18) _ = _; simp only [Act.put, List.setIfInBounds_toArray, List.set_cons_zero, List.set_cons_succ, i64_w, i32_w]; rfl
         refine oN 9 (some 19) (fun K hK => ?_); refine gO Tryz.func45 #[.slice Ao13 y221.length co13] ?_; (with_reducible refine (G.mark_joined.calls _ _ y221 t224 _ ?side1 ?side2 A8.out).mono ?_); (case side1 => repeat (first | exact (Kd.R_reads' HO223.out).2.2 | (with_reducible refine Kd.C_alloc ?_ _) | (with_reducible refine Kd.C_drewN ?_ _) | (with_reducible refine Kd.C_drew ?_))); (case side2 => exact (Kd.R_reads' HO223.out).2.1); rintro e w14 ⟨rfl, hb⟩; refine ⟨_, rfl, ?_⟩; replace HO_3 := aM (Kd.R_below (vA HO_3.out) hb); replace HO223 := aM (Kd.R_below (vA HO223.out) hb); replace HB := aM (below_step bB hb); (try clear hb); (try clear hb2); (try clear hk); (try clear hi); refine hK.out _ _ trivial (fun hHeld => ?_); clear hK K; refine norm_ (a' := ?_) ?_ ?_; rotate_left
         ·show Act.put _ (some 19) _ = _; simp only [Act.put, List.setIfInBounds_toArray, List.set_cons_zero, List.set_cons_succ, i64_w, i32_w]; rfl
         refine oN 10 (some 20) (fun K hK => ?_); refine value_ (w1 := ?_) (v := ?_) (by rfl) rfl ?_ ?_; rotate_left 2
         ·go_simp; constructor
          ·rfl
          ·rfl
         refine hK.out _ _ trivial (fun hHeld => ?_); clear hK K; refine norm_ (a' := ?_) ?_ ?_; rotate_left
         ·show Act.put _ (some 20) _ = _; simp only [Act.put, List.setIfInBounds_toArray, List.set_cons_zero, List.set_cons_succ, i64_w, i32_w]; rfl
         refine oN 11 (some 21) (fun K hK => ?_); refine Kd.R_append_step Kd.string (w0 := w) w.heap.size (by rfl) (.tmp 10) (.tmp 20) 26 9 (.string ⟨#[]⟩) 16 rfl Tryz.underlying26 info9 rfl (by decide) (by omega) u3 x3_1 t224 [.string t224] (fun k_ => some k_ ≠ (.slice Ao13 y221.length co13 : Value).ownBlock) (fun _ => False) rfl rfl ?aP (fun _ hk => hk.elim) ?aF ?aO ?aB ?aS ?aL ?_; (case aP => exact rfl); (case aB => exact bB); (case aF => exact (fun k_ hk => Kd.fresh' (Kd.R_lt (vA HO223.out)) k_ hk)); (case aO => exact (by (with_reducible repeat (first | apply Kd.R_alloc | apply Kd.R_drewN | apply Kd.R_drew)); exact Kd.R_mono HO_3.out (fun _ hk => hk.2))); (case aS => exact (below_size bB)); (case aL => have := LMc9.out; omega); intro v226 w15 ho hb hg hat; rw [← Ny225.out] at ho; replace HO223 := aM (Kd.R_after (ok := (fun _ => True)) (vA HO223.out) hg hat); replace HB := aM (hb); have HO227 := aM (ho); clear HO_3; clear ho hb hg hat; refine hK.out _ _ trivial (fun hHeld => ?_); clear hK K; refine norm_ (a' := ?_) ?_ ?_; rotate_left
         ·show Act.put _ (some 21) _ = _; simp only [Act.put, List.setIfInBounds_toArray, List.set_cons_zero, List.set_cons_succ, i64_w, i32_w]; rfl
         refine pU 12 (some 3) ?_; refine done_ (done_of HT_.out (by kernel_rfl)) ?_; (try go_wp2); go_roundg k1
         case measure => have := HK1.out; omega
         case rel => exact ⟨(y225), (ji5), (by first | rfl | (simp; done) | (simp only [← hji5] <;> (first | rfl | simp)) | (simp [*]; done)), H', ⟨by have := HK1.out; omega⟩, ⟨by (with_reducible repeat (first | apply Kd.R_alloc | apply Kd.R_drewN | apply Kd.R_drew)); exact Kd.R_mono HO227.out (fun _ hk => trivial)⟩, ⟨bB⟩⟩
        ·rw [if_neg c9] at H; exact absurd H (by simp)
       ·rw [if_neg c7] at H; exact absurd H (by simp)
      ·rw [if_neg c6] at H; exact absurd H (by simp)
     ·rw [if_neg c4] at H; exact absurd H (by simp)
    ·rw [if_neg c3] at H; exact absurd H (by simp)
   ·rw [if_neg c2] at H; have c2b0 := decide_eq_false c2; clear c2; by_cases cz : x3_1.length ≤ 1000000
    ·rw [if_pos cz] at H; obtain rfl := Option.some.inj H; obtain ⟨Ao18, co18, eo18⟩ := Kd.R_slice HO_3.out; subst eo18; have hB0 : w.heap.size ≤ wr.heap.size := below_size HB.out; have HOW := aM (Kd.own_of_R HO_3.out); have CZ := aM cz; clear cz H
     go_wp2_with fail
     refine (sort_owns x3_1 _ w.heap.size _ HOW.out hB0 CZ.out).mono ?_; rintro e w2 ⟨rfl, ho2, hb2⟩; have HO2 := aM ho2; have HB2 := aM (HB.out.trans hb2); have HE := aM (show (sortB (bytesL x3_1)).length = x3_1.length by simp [sortB, bytesL]); have hB2 : w.heap.size ≤ w2.heap.size := HB2.out.size; clear ho2 hb2
     go_wp2_with fail
     refine (compact_owns (sortB (bytesL x3_1)) _ w.heap.size _ HO2.out hB2 (by rw [HE.out]; exact CZ.out)).mono ?_; rintro e w3 ⟨v', rfl, ho3, hb3⟩; have HO3 := aM ho3; have HB3 := aM (HB2.out.trans hb3); clear ho3 hb3
     go_wp2
     go_ret; exact ⟨v', rfl, setL_owns HO3.out, HB3.out⟩
    ·rw [if_neg cz] at H; exact absurd H (by simp)
/-- A word with a letter put in behind its first k. -/
def insAt (x : ByteArray) (k : Nat) (c : UInt8) : ByteArray := catB [x.extract 0 k, ⟨#[c]⟩, x.extract k x.size]
/-- All of them, for the first n places, letter 0 first. -/
def insAll (x : ByteArray) (n : Nat) : List ByteArray := (List.range n).flatMap fun k => [insAt x k 48, insAt x k 49]
theorem insAll_succ (x : ByteArray) (n : Nat) : insAll x (n + 1) = insAll x n ++ [insAt x n 48, insAt x n 49] := by simp [insAll, List.range_succ]
theorem insAll_length (x : ByteArray) (n : Nat) : (insAll x n).length = 2 * n := by
 induction n with
 | zero => rfl
 | succ n ih => rw [insAll_succ, List.length_append, ih]; rfl
def mark_longer.f (a0 a1 : ByteArray) : Option (List ByteArray) := if a1 = ⟨#[48, 49]⟩ ∧ a0.size ≤ 1000 then some (setL (insAll a0 (a0.size + 1))) else none
theorem ins_joined (x : ByteArray) (k : Nat) (c : UInt8) (hx : x.size ≤ 1000) (hk : k ≤ x.size) : mark_joined.f [x.extract 0 k, ⟨#[c]⟩, x.extract k x.size] = some (insAt x k c) := by
 unfold mark_joined.f; rw [if_pos]
 ·rfl
 ·refine ⟨?_, by simp⟩
  have h1 : (x.extract 0 k).data.toList.length = k := by
   have : (x.extract 0 k).size = k := by rw [ByteArray.size_extract]; omega
   rw [Array.length_toList]; exact this
  have h2 : (x.extract k x.size).data.toList.length = x.size - k := by
   have : (x.extract k x.size).size = x.size - k := by rw [ByteArray.size_extract]; omega
   rw [Array.length_toList]; exact this
  show ((List.map _ _).flatten.toArray).size ≤ _; simp only [List.map_cons, List.map_nil, List.flatten_cons, List.flatten_nil, List.append_nil, List.size_toArray, List.length_append]; simp only [Array.length_toList] at h1 h2 ⊢; simp only [List.size_toArray, List.length_cons, List.length_nil]; omega
theorem it_drew {w : World} {k : Nat} {s : ByteArray} {p : Nat} (h : w.heap[k]? = some (.stringIter s p)) : w.drew.heap[k]? = some (.stringIter s p) := h
theorem it_below {w w1 : World} {k : Nat} {s : ByteArray} {p : Nat} (h : w.heap[k]? = some (.stringIter s p)) (hb : Below w.heap.size w w1) : w1.heap[k]? = some (.stringIter s p) :=
 (hb.block k (Array.getElem?_eq_some_iff.1 h).1).trans h
theorem it_grown {w w1 : World} {k : Nat} {s : ByteArray} {p e B : Nat} {ok : Nat → Prop} {v : Value} {xs : List ByteArray} (h : w.heap[k]? = some (.stringIter s p)) (hr : Kd.R Kd.string e w B ok v xs) (hg : w.grownBy w1 v.ownBlock) : w1.heap[k]? = some (.stringIter s p) := by
 refine (hg.block k (Array.getElem?_eq_some_iff.1 h).1 ?_).trans h; intro e1; obtain ⟨cells, hc⟩ := own_typed (Kd.own_of_R hr) k e1.symm; rw [h] at hc; cases hc
/-- A row of the call's own, where a range's iterator is moved on. -/
theorem R_iter {w w1 : World} {k : Nat} {s : ByteArray} {p e B : Nat} {v : Value} {xs : List ByteArray} (h : w.heap[k]? = some (.stringIter s p)) (hr : Kd.R Kd.string e w B (fun _ => True) v xs) (ho : ∀ j, j ≠ k → w1.heap[j]? = w.heap[j]?) : Kd.R Kd.string e w1 B (fun _ => True) v xs := by
 refine Kd.R_mono (Kd.R_step (Kd.R_bound hr) (fun j hj _ => ho j ?_)) (fun _ _ => trivial); rintro rfl; obtain ⟨_, _, _, q, _, cells, hc⟩ := hj; rw [h] at hc; cases hc
theorem R_newiter {w : World} {s : ByteArray} {e B : Nat} {v : Value} {xs : List ByteArray} (hr : Kd.R Kd.string e w B (fun _ => True) v xs) : Kd.R Kd.string e (w.iter s 0) B (fun _ => True) v xs :=
 Kd.R_below hr ((Below.refl _ _).alloc (Nat.le_refl _) _)
theorem decode01_0 : Utf8.decode ⟨#[48, 49]⟩ 0 = (48, 1) := by decide +kernel
theorem decode01_1 : Utf8.decode ⟨#[48, 49]⟩ 1 = (49, 1) := by decide +kernel
/-- What the inner loop has laid behind the elder words. -/
def insTo (x : ByteArray) (k j : Nat) : List ByteArray := [insAt x k 48, insAt x k 49].take j
theorem to_len (x : ByteArray) (k j : Nat) : (insAll x k ++ insTo x k j).length ≤ 2 * k + 2 := by
 rw [List.length_append, insAll_length]
 have : (insTo x k j).length ≤ 2 := by unfold insTo; rw [List.length_take]; exact Nat.min_le_right _ _
 omega
def mark_longer.T8 : Bool × List (List Nat × List Nat) := (true, [([], []), ([], []), ([], []), ([1, 2], [1, 2]), ([], []), ([4], [4]), ([], []), ([], []), ([6, 7], [6, 7]), ([3, 5, 8], [3, 5, 8]), ([9], [9]), ([10], [10]), ([0, 11, 10], [0, 11]), ([12, 12, 0, 1, 2, 3, 4, 5, 6, 7, 8, 9, 10, 11, 12], [0, 12])])
def mark_longer.B8 : List Nat := [0, 0, 0, 6, 0, 16, 0, 0, 192, 510, 1022, 2046, 4095, 8191]
theorem mark_longer.tab8 : rtab .any (opsOf Tryz.f51 8) = mark_longer.T8 := by kernel_rfl
theorem mark_longer.bits8 : waitsOk mark_longer.T8.2 mark_longer.B8 = true := by kernel_rfl
set_option maxHeartbeats 8000000 in
set_option maxRecDepth 100000 in
theorem mark_longer.calls (a0 a1 : ByteArray) (r : List ByteArray) (w : World) (h : mark_longer.f a0 a1 = some r) :
  Calls Tryz.prog 51 #[.string a0, .string a1] w fun e w' => ∃ v0_ : Value, e = .returned (v0_) ∧ Kd.R Kd.string 9 w' w.heap.size (fun _ => True) v0_ r ∧ Below w.heap.size w w' := by
 unfold mark_longer.f at h; split at h
 case isFalse => cases h
 case isTrue hg =>
 obtain ⟨rfl, hsz⟩ := hg; obtain rfl := Option.some.inj h; clear h; go_enter Tryz.func51, Tryz.ntmps51
 go_wp2
 go_loopw [5, 12] (fun v i wr => ∃ k : Nat, k ≤ a0.size + 1 ∧ i = .int .i64 k ∧ Aside0 (Kd.R Kd.string 9 wr w.heap.size (fun _ => True) v (insAll a0 k)) ∧ Aside0 (Below w.heap.size w wr)) (fun _ i _ => a0.size + 1 - (RowKit.intOf i).toNat)
 case atStart => exact ⟨0, Nat.zero_le _, rfl, ⟨Kd.R_nil _ _ _ _ _⟩, ⟨Below.refl _ _⟩⟩
 case round =>
  obtain ⟨k, hk, rfl, HO, HB⟩ := hrel; by_cases hlt : k < a0.size + 1
  ·have LEN := aM (insAll_length a0 k); (have hk1 : k ≤ a0.size := by omega); (have hdec : decide ((k : Int) < (a0.size : Int) + 1) = true := by simp; omega); have HJ48 := aM (ins_joined a0 k 48 hsz (by omega)); have HJ49 := aM (ins_joined a0 k 49 hsz (by omega))
   go_wp2
   obtain ⟨wo, rfl⟩ : ∃ wo : World, wo = wr := ⟨_, rfl⟩; have HSZ := aM (HB.out.size)
   go_loopw [5] (fun v wi => ∃ j : Nat, j ≤ 2 ∧ Aside0 (Kd.R Kd.string 9 wi w.heap.size (fun _ => True) v (insAll a0 k ++ insTo a0 k j)) ∧ Aside0 (wi.heap[wo.heap.size]? = some (.stringIter ⟨#[48, 49]⟩ j)) ∧ Aside0 (Below w.heap.size w wi)) (fun _ wi => 2 - wi.iterPos wo.heap.size)
   case atStart => exact ⟨0, Nat.zero_le _, ⟨by simpa [insTo] using R_newiter HO.out⟩, ⟨World.iter_heap wo _ 0⟩, ⟨below_iter HB.out HSZ.out _ _⟩⟩
   case round =>
    clear HO HB; obtain ⟨j, hj, HO, HIT, HB⟩ := hrel
    match j, hj with
    | 0, _ =>
     have POS := aM (iterPos_of HIT.out); obtain ⟨w2, hnx2, hit2, hsz2, hoth2, hbel2⟩ := next_named (P := Tryz.prog) wr wo.heap.size ⟨#[48, 49]⟩ 0 HIT.out (by decide); rw [decode01_0] at hnx2 hit2; have n0_ := aM (R_iter HIT.out HO.out hoth2); have n1_ := aM (hbel2 _ _ HSZ.out HB.out); clear HO HB HIT hsz2 hoth2 hbel2; have HO := n0_; have HB := n1_; have HIT := aM hit2; clear n0_ n1_ hit2; (try go_wp2); have n0_ := aM (Kd.R_drew HO.out); have n1_ := aM (below_drew1 HB.out); have n2_ := aM (it_drew HIT.out); clear HO HB HIT; have HO := n0_; have HB := n1_; have HIT := n2_; clear n0_ n1_ n2_; refine start_ (n := 14) (S := fun w' => True) (ds := []) #[false, false, false, false, false, false, false, false, false, false, false, false, false, false] (by kernel_rfl) rfl rfl trivial (fun hHeld => ?_); refine with_tabW mark_longer.tab8 mark_longer.bits8 (fun HT_ HW_ => ?_); generalize w2.drew = w10 at HO HB HIT hHeld ⊢; refine pU 0 (some 20) ?_; refine pU 1 (some 21) ?_; refine pU 2 (some 22) ?_; refine pU 3 (some 23) ?_; refine pU 4 (some 24) ?_; refine pU 5 (some 25) ?_; refine pU 6 (some 26) ?_; refine pU 7 (some 27) ?_; refine pU 8 (some 28) ?_; refine oN 9 (some 29) (fun K hK => ?_); refine Kd.R_lit_step Kd.string _ 9 ?hg (N := 29) ?hd (xs := ([a0.extract 0 k, (⟨#[48]⟩ : ByteArray), a0.extract k a0.size] : List ByteArray)) (inner := [.string (a0.extract 0 k), .string ((⟨#[48]⟩ : ByteArray)), .string (a0.extract k a0.size)]) (ok := fun _ => True) (okp := fun _ => True) ?hr ?hp (fun _ hk => hk) trivial (Below.refl _ _) (Nat.le_refl _) (by simp) ?_; (case hd => rfl); (case hg => rfl); (case hr => first | (go_simp; done) | (go_simp; rfl)); (case hp => exact (Reps.one (show Kd.M Kd.string _ _ _ (a0.extract 0 k) [.string (a0.extract 0 k)] from rfl) (Reps.one (show Kd.M Kd.string _ _ _ ((⟨#[48]⟩ : ByteArray)) [.string ((⟨#[48]⟩ : ByteArray))] from rfl) (Reps.one (show Kd.M Kd.string _ _ _ (a0.extract k a0.size) [.string (a0.extract k a0.size)] from rfl) (Reps.none _ _))))); intro v222 w11 ho12 hb hg_ hnew_; clear hg_ hnew_; have n0_ := aM (Kd.R_elder' (vA HO.out) (Kd.R_base ho12) hb); have n1_ := aM (Kd.R_lower (Kd.R_new' ho12 (Kd.R_lt (vA HO.out))) (below_size bB)); have n2_ := aM (below_step bB hb); have n3_ := aM (it_below HIT.out hb); clear HO HB HIT; have HO := n0_; have HL := n1_; have HB := n2_; have HIT := n3_; clear n0_ n1_ n2_ n3_ hb ho12; obtain ⟨Ao13, co13, eo13⟩ := Kd.R_slice HL.out; subst eo13; refine hK.out _ _ trivial (fun hHeld => ?_); clear hK K; refine norm_ (a' := ?_) ?_ ?_; rotate_left
     ·show Act.put _ (some 29) _ = _; simp only [Act.put, List.setIfInBounds_toArray, List.set_cons_zero, List.set_cons_succ, i64_w, i32_w]; rfl
     refine oN 10 (some 30) (fun K hK => ?_); refine goes_ Tryz.func45 (by kernel_rfl) rfl #[.slice Ao13 ([a0.extract 0 k, (⟨#[48]⟩ : ByteArray), a0.extract k a0.size] : List ByteArray).length co13] (by rfl) rfl rfl (by (try simp only [List.map_toArray, List.map_cons, List.map_nil]); first | done | rfl) ?_; (with_reducible refine (mark_joined.calls _ _ ([a0.extract 0 k, (⟨#[48]⟩ : ByteArray), a0.extract k a0.size] : List ByteArray) (insAt a0 k 48) _ ?side1 ?side2 HJ48.out).mono ?_); (case side1 => repeat (first | exact (Kd.R_reads' HL.out).2.2 | (with_reducible refine Kd.C_alloc ?_ _) | (with_reducible refine Kd.C_drewN ?_ _) | (with_reducible refine Kd.C_drew ?_))); (case side2 => exact (Kd.R_reads' HL.out).2.1); rintro e w14 ⟨rfl, hb⟩; refine ⟨_, rfl, ?_⟩; have n0_ := aM (Kd.R_below (vA HO.out) hb); have n1_ := aM (Kd.R_below (vA HL.out) hb); have n2_ := aM (below_step bB hb); have n3_ := aM (it_below HIT.out hb); clear HO HL HB HIT hb; have HO := n0_; have HL := n1_; have HB := n2_; have HIT := n3_; clear n0_ n1_ n2_ n3_; refine hK.out _ _ trivial (fun hHeld => ?_); clear hK K; refine norm_ (a' := ?_) ?_ ?_; rotate_left
     ·show Act.put _ (some 30) _ = _; simp only [Act.put, List.setIfInBounds_toArray, List.set_cons_zero, List.set_cons_succ, i64_w, i32_w]; rfl
     refine oN 11 (some 31) (fun K hK => ?_); refine value_ (w1 := ?_) (v := ?_) (by rfl) rfl ?_ ?_; rotate_left 2
     ·go_simp; constructor
      ·rfl
      ·rfl
     refine hK.out _ _ trivial (fun hHeld => ?_); clear hK K; refine norm_ (a' := ?_) ?_ ?_; rotate_left
     ·show Act.put _ (some 31) _ = _; simp only [Act.put, List.setIfInBounds_toArray, List.set_cons_zero, List.set_cons_succ, i64_w, i32_w]; rfl
     refine oN 12 (some 32) (fun K hK => ?_); refine Kd.R_append_step Kd.string (w0 := w) w.heap.size (by rfl) (.tmp 20) (.tmp 31) 26 9 (.string ⟨#[]⟩) 16 rfl Tryz.underlying26 info9 rfl (by decide) (by omega) u5 (insAll a0 k ++ insTo a0 k 0) (insAt a0 k 48) [.string (insAt a0 k 48)] (fun k_ => some k_ ≠ (.slice Ao13 ([a0.extract 0 k, (⟨#[48]⟩ : ByteArray), a0.extract k a0.size] : List ByteArray).length co13 : Value).ownBlock) (fun _ => False) rfl rfl ?aP (fun _ hk => hk.elim) ?aF ?aO ?aB ?aS ?aL ?_; (case aP => exact rfl); (case aB => exact bB); (case aF => exact (fun k_ hk => Kd.fresh' (Kd.R_lt (vA HL.out)) k_ hk)); (case aO => exact (by (with_reducible repeat (first | apply Kd.R_alloc | apply Kd.R_drewN | apply Kd.R_drew)); exact Kd.R_mono HO.out (fun _ hk => hk.2))); (case aS => exact (below_size bB)); (case aL => have := to_len a0 k 0; omega); intro v226 w15 ho hb hg hat; have n3_ := aM (it_grown HIT.out (vA HO.out) hg); clear HL HB HO HIT; have HB := aM hb; have HO := aM ho; have HIT := n3_; clear n3_ ho hb hg hat; refine hK.out _ _ trivial (fun hHeld => ?_); clear hK K; refine norm_ (a' := ?_) ?_ ?_; rotate_left
     ·show Act.put _ (some 32) _ = _; simp only [Act.put, List.setIfInBounds_toArray, List.set_cons_zero, List.set_cons_succ, i64_w, i32_w]; rfl
     refine pU 13 (some 5) ?_; refine done_ (done_of HT_.out (by kernel_rfl)) ?_; try go_wp2
     go_roundw
     case rel => exact ⟨1, by omega, ⟨by simpa [insTo] using Kd.R_mono HO.out (fun _ _ => trivial)⟩, HIT, HB⟩
     case measure => rw [POS.out, iterPos_of HIT.out]; decide
    | 1, _ =>
     have POS := aM (iterPos_of HIT.out); obtain ⟨w2, hnx2, hit2, hsz2, hoth2, hbel2⟩ := next_named (P := Tryz.prog) wr wo.heap.size ⟨#[48, 49]⟩ 1 HIT.out (by decide); rw [decode01_1] at hnx2 hit2; have n0_ := aM (R_iter HIT.out HO.out hoth2); have n1_ := aM (hbel2 _ _ HSZ.out HB.out); clear HO HB HIT hsz2 hoth2 hbel2; have HO := n0_; have HB := n1_; have HIT := aM hit2; clear n0_ n1_ hit2; (try go_wp2); have n0_ := aM (Kd.R_drew HO.out); have n1_ := aM (below_drew1 HB.out); have n2_ := aM (it_drew HIT.out); clear HO HB HIT; have HO := n0_; have HB := n1_; have HIT := n2_; clear n0_ n1_ n2_; refine start_ (n := 14) (S := fun w' => True) (ds := []) #[false, false, false, false, false, false, false, false, false, false, false, false, false, false] (by kernel_rfl) rfl rfl trivial (fun hHeld => ?_); refine with_tabW mark_longer.tab8 mark_longer.bits8 (fun HT_ HW_ => ?_); generalize w2.drew = w10 at HO HB HIT hHeld ⊢; refine pU 0 (some 20) ?_; refine pU 1 (some 21) ?_; refine pU 2 (some 22) ?_; refine pU 3 (some 23) ?_; refine pU 4 (some 24) ?_; refine pU 5 (some 25) ?_; refine pU 6 (some 26) ?_; refine pU 7 (some 27) ?_; refine pU 8 (some 28) ?_; refine oN 9 (some 29) (fun K hK => ?_); refine Kd.R_lit_step Kd.string _ 9 ?hg (N := 29) ?hd (xs := ([a0.extract 0 k, (⟨#[49]⟩ : ByteArray), a0.extract k a0.size] : List ByteArray)) (inner := [.string (a0.extract 0 k), .string ((⟨#[49]⟩ : ByteArray)), .string (a0.extract k a0.size)]) (ok := fun _ => True) (okp := fun _ => True) ?hr ?hp (fun _ hk => hk) trivial (Below.refl _ _) (Nat.le_refl _) (by simp) ?_; (case hd => rfl); (case hg => rfl); (case hr => first | (go_simp; done) | (go_simp; rfl)); (case hp => exact (Reps.one (show Kd.M Kd.string _ _ _ (a0.extract 0 k) [.string (a0.extract 0 k)] from rfl) (Reps.one (show Kd.M Kd.string _ _ _ ((⟨#[49]⟩ : ByteArray)) [.string ((⟨#[49]⟩ : ByteArray))] from rfl) (Reps.one (show Kd.M Kd.string _ _ _ (a0.extract k a0.size) [.string (a0.extract k a0.size)] from rfl) (Reps.none _ _))))); intro v222 w11 ho12 hb hg_ hnew_; clear hg_ hnew_; have n0_ := aM (Kd.R_elder' (vA HO.out) (Kd.R_base ho12) hb); have n1_ := aM (Kd.R_lower (Kd.R_new' ho12 (Kd.R_lt (vA HO.out))) (below_size bB)); have n2_ := aM (below_step bB hb); have n3_ := aM (it_below HIT.out hb); clear HO HB HIT; have HO := n0_; have HL := n1_; have HB := n2_; have HIT := n3_; clear n0_ n1_ n2_ n3_ hb ho12; obtain ⟨Ao13, co13, eo13⟩ := Kd.R_slice HL.out; subst eo13; refine hK.out _ _ trivial (fun hHeld => ?_); clear hK K; refine norm_ (a' := ?_) ?_ ?_; rotate_left
     ·show Act.put _ (some 29) _ = _; simp only [Act.put, List.setIfInBounds_toArray, List.set_cons_zero, List.set_cons_succ, i64_w, i32_w]; rfl
     refine oN 10 (some 30) (fun K hK => ?_); refine goes_ Tryz.func45 (by kernel_rfl) rfl #[.slice Ao13 ([a0.extract 0 k, (⟨#[49]⟩ : ByteArray), a0.extract k a0.size] : List ByteArray).length co13] (by rfl) rfl rfl (by (try simp only [List.map_toArray, List.map_cons, List.map_nil]); first | done | rfl) ?_; (with_reducible refine (mark_joined.calls _ _ ([a0.extract 0 k, (⟨#[49]⟩ : ByteArray), a0.extract k a0.size] : List ByteArray) (insAt a0 k 49) _ ?side1 ?side2 HJ49.out).mono ?_); (case side1 => repeat (first | exact (Kd.R_reads' HL.out).2.2 | (with_reducible refine Kd.C_alloc ?_ _) | (with_reducible refine Kd.C_drewN ?_ _) | (with_reducible refine Kd.C_drew ?_))); (case side2 => exact (Kd.R_reads' HL.out).2.1); rintro e w14 ⟨rfl, hb⟩; refine ⟨_, rfl, ?_⟩; have n0_ := aM (Kd.R_below (vA HO.out) hb); have n1_ := aM (Kd.R_below (vA HL.out) hb); have n2_ := aM (below_step bB hb); have n3_ := aM (it_below HIT.out hb); clear HO HL HB HIT hb; have HO := n0_; have HL := n1_; have HB := n2_; have HIT := n3_; clear n0_ n1_ n2_ n3_; refine hK.out _ _ trivial (fun hHeld => ?_); clear hK K; refine norm_ (a' := ?_) ?_ ?_; rotate_left
     ·show Act.put _ (some 30) _ = _; simp only [Act.put, List.setIfInBounds_toArray, List.set_cons_zero, List.set_cons_succ, i64_w, i32_w]; rfl
     refine oN 11 (some 31) (fun K hK => ?_); refine value_ (w1 := ?_) (v := ?_) (by rfl) rfl ?_ ?_; rotate_left 2
     ·go_simp; constructor
      ·rfl
      ·rfl
     refine hK.out _ _ trivial (fun hHeld => ?_); clear hK K; refine norm_ (a' := ?_) ?_ ?_; rotate_left
     ·show Act.put _ (some 31) _ = _; simp only [Act.put, List.setIfInBounds_toArray, List.set_cons_zero, List.set_cons_succ, i64_w, i32_w]; rfl
     refine oN 12 (some 32) (fun K hK => ?_); refine Kd.R_append_step Kd.string (w0 := w) w.heap.size (by rfl) (.tmp 20) (.tmp 31) 26 9 (.string ⟨#[]⟩) 16 rfl Tryz.underlying26 info9 rfl (by decide) (by omega) u5 (insAll a0 k ++ insTo a0 k 1) (insAt a0 k 49) [.string (insAt a0 k 49)] (fun k_ => some k_ ≠ (.slice Ao13 ([a0.extract 0 k, (⟨#[49]⟩ : ByteArray), a0.extract k a0.size] : List ByteArray).length co13 : Value).ownBlock) (fun _ => False) rfl rfl ?aP (fun _ hk => hk.elim) ?aF ?aO ?aB ?aS ?aL ?_; (case aP => exact rfl); (case aB => exact bB); (case aF => exact (fun k_ hk => Kd.fresh' (Kd.R_lt (vA HL.out)) k_ hk)); (case aO => exact (by (with_reducible repeat (first | apply Kd.R_alloc | apply Kd.R_drewN | apply Kd.R_drew)); exact Kd.R_mono HO.out (fun _ hk => hk.2))); (case aS => exact (below_size bB)); (case aL => have := to_len a0 k 1; omega); intro v226 w15 ho hb hg hat; have n3_ := aM (it_grown HIT.out (vA HO.out) hg); clear HL HB HO HIT; have HB := aM hb; have HO := aM ho; have HIT := n3_; clear n3_ ho hb hg hat; refine hK.out _ _ trivial (fun hHeld => ?_); clear hK K; refine norm_ (a' := ?_) ?_ ?_; rotate_left
     ·show Act.put _ (some 32) _ = _; simp only [Act.put, List.setIfInBounds_toArray, List.set_cons_zero, List.set_cons_succ, i64_w, i32_w]; rfl
     refine pU 13 (some 5) ?_; refine done_ (done_of HT_.out (by kernel_rfl)) ?_; try go_wp2
     go_roundw
     case rel => exact ⟨2, by omega, ⟨by simpa [insTo] using Kd.R_mono HO.out (fun _ _ => trivial)⟩, HIT, HB⟩
     case measure => rw [POS.out, iterPos_of HIT.out]; decide
    | 2, _ =>
     have hnx2 : ∀ ty, (Instr.next (.pointer (some ⟨wo.heap.size, 0, none⟩)) true ty).run Tryz.prog wr = _ := fun ty => run_next_end_at wr wo.heap.size ⟨#[48, 49]⟩ 2 ty HIT.out (by decide); have HO' := aM (show Kd.R Kd.string 9 wr w.heap.size (fun _ => True) _ (insAll a0 (k + 1)) from by rw [insAll_succ]; exact HO.out); clear HO
     go_wp2
     go_roundw
     case rel => exact ⟨k + 1, by omega, by go_num, HO', HB⟩
     case measure => simp [RowKit.intOf]; omega
  ·(obtain rfl : k = a0.size + 1 := by omega); obtain ⟨Ao18, co18, eo18⟩ := Kd.R_slice HO.out; subst eo18; have hB0 : w.heap.size ≤ wr.heap.size := below_size HB.out; have HOW := aM (Kd.own_of_R HO.out); have LEN := aM (insAll_length a0 (a0.size + 1)); obtain ⟨xs, hxs⟩ : ∃ xs, insAll a0 (a0.size + 1) = xs := ⟨_, rfl⟩; rw [hxs] at HOW LEN ⊢; have HXS := aM hxs; clear HO hxs
   go_wp2_with fail
   refine (sort_owns xs _ w.heap.size _ HOW.out hB0 (by have := LEN.out; omega)).mono ?_; rintro e w2 ⟨rfl, ho2, hb2⟩; have HO2 := aM ho2; have HB2 := aM (HB.out.trans hb2); have HE := aM (show (sortB (bytesL xs)).length = xs.length by simp [sortB, bytesL]); have hB2 : w.heap.size ≤ w2.heap.size := HB2.out.size; clear ho2 hb2
   go_wp2_with fail
   refine (compact_owns (sortB (bytesL xs)) _ w.heap.size _ HO2.out hB2 (by rw [HE.out]; have := LEN.out; omega)).mono ?_; rintro e w3 ⟨v', rfl, ho3, hb3⟩; have HO3 := aM ho3; have HB3 := aM (HB2.out.trans hb3); clear ho3 hb3
   go_wp2
   go_ret; exact ⟨v', rfl, by rw [HXS.out]; exact setL_owns HO3.out, HB3.out⟩
end Go.Proofs.YtopmcoohdhlnaaaGreatDoor.G
namespace Go.Proofs.YtopmcoohdhlnaaaGreatDoor.Pa
open Go.RowKit Go.Proofs.YtopmcoohdhlnaaaGreatDoorW.PrintWords Go.Proofs.YtopmcoohdhlnaaaGreatDoorW.PrintLast Go.Proofs.YtopmcoohdhlnaaaGreatDoorW.PrintMore
attribute [local go_sem] max2_int min2_int max_two min_two max_three min_three max_four min_four   -- for this text's walks alone
set_option linter.unusedVariables false
set_option linter.unusedSimpArgs false
def mark_sum.l0 : Nat → ByteArray → Int → Int → Int → Option (Int)
 | 0, _, _, _, _ => none
 | k + 1, x0, x3, x6, x7 => if x7 < x6 then (if 0 ≤ x7 then (if x7 < (x0.size : Int) then (if (bt x0 x7) = 49 then (mark_sum.l0 k x0 (wrap64 (x3 + (wrap64 (x7 + 1)))) x6 (wrap64 (x7 + 1))) else (mark_sum.l0 k x0 x3 x6 (wrap64 (x7 + 1)))) else (none)) else (none)) else (some x3)
def mark_sum.f (k : Nat) (a0 : ByteArray) : Option (Int) := mark_sum.l0 k a0 0 (a0.size : Int) 0
set_option maxHeartbeats 8000000 in
set_option maxRecDepth 100000 in
theorem mark_sum.calls (k : Nat) (a0 : ByteArray) (r : Int) (w : World) (h : mark_sum.f k a0 = some r) :
  Calls Tryz.prog 74 #[.string a0] w fun e w' => e = .returned (.int .i64 r) ∧ Drawn0 w w' := by
 have H : (mark_sum.l0 k a0 0 (a0.size : Int) 0) = some r := h; clear h; have H' := aM H; clear H; go_enter Tryz.func74, Tryz.ntmps74
 go_wp2
 go_loopg [3, 7] k (fun kq v3 v7 w' => ∃ (x3_1 : Int) (x7_1 : Int), v3 = .int .i64 x3_1 ∧ v7 = .int .i64 x7_1 ∧ Aside0 (mark_sum.l0 kq a0 x3_1 (a0.size : Int) x7_1 = some r) ∧ Aside0 (kq ≤ k) ∧ Drawn0 w w')
 case atStart => exact ⟨(0), (0), tS, tS, H', ⟨Nat.le_refl _⟩, by repeat (first | exact Drawn0.refl _ | apply Drawn0.step)⟩
 case round =>
  clear H'; obtain ⟨x3_1, x7_1, rfl, rfl, HA, HK1, ⟨m1, rfl⟩⟩ := hrel
  cases gk with
  | zero => exact absurd HA.out (by simp [mark_sum.l0])
  | succ k1 =>
   have H := HA.out; clear HA; simp only [mark_sum.l0] at H; by_cases c2 : x7_1 < (a0.size : Int)
   ·rw [if_pos c2] at H; have c2b0 := decide_eq_true c2; clear c2; by_cases c3 : 0 ≤ x7_1
    ·rw [if_pos c3] at H; have c3b0 := decide_eq_true c3; clear c3; by_cases c4 : x7_1 < (a0.size : Int)
     ·rw [if_pos c4] at H; have c4b0 := decide_eq_true c4; clear c4; by_cases c6 : (bt a0 x7_1) = 49
      ·rw [if_pos c6] at H; have c6b0 : ((bt a0 x7_1) == 49) = true := beq_iff_eq.mpr c6; have c6b1 : ((bt a0 x7_1) != 49) = false := bne_eq_false_iff_eq.mpr c6; clear c6; have H' := aM H; clear H; have p5 : 0 ≤ (x7_1 : Int) := tD; have q5 : x7_1 < (a0.size : Int) := tD; have hx5 := bt_at a0 x7_1; replace p5 := eq_true p5; replace q5 := eq_true q5
       go_wp2
       go_roundg k1
       case measure => have := HK1.out; omega
       case rel => exact ⟨(wrap64 (x3_1 + (wrap64 (x7_1 + 1)))), (wrap64 (x7_1 + 1)), tS, tS, H', ⟨by have := HK1.out; omega⟩, by repeat (first | exact Drawn0.refl _ | apply Drawn0.step)⟩
      ·rw [if_neg c6] at H; have c6b0 : ((bt a0 x7_1) == 49) = false := beq_eq_false_iff_ne.mpr c6; have c6b1 : ((bt a0 x7_1) != 49) = true := bne_iff_ne.mpr c6; have H' := aM H; clear H; have p5 : 0 ≤ (x7_1 : Int) := tD; have q5 : x7_1 < (a0.size : Int) := tD; have hx5 := bt_at a0 x7_1; replace p5 := eq_true p5; replace q5 := eq_true q5
       go_wp2
       go_roundg k1
       case measure => have := HK1.out; omega
       case rel => exact ⟨(x3_1), (wrap64 (x7_1 + 1)), tS, tS, H', ⟨by have := HK1.out; omega⟩, by repeat (first | exact Drawn0.refl _ | apply Drawn0.step)⟩
     ·rw [if_neg c4] at H; exact absurd H (by simp)
    ·rw [if_neg c3] at H; exact absurd H (by simp)
   ·rw [if_neg c2] at H; have c2b0 := decide_eq_false c2; clear c2; obtain rfl := Option.some.inj H
    go_wp2
    go_ret; exact ⟨tS, by repeat (first | exact Drawn0.refl _ | apply Drawn0.step)⟩
def mark_steps.l0 : Nat → ByteArray → List Int → Int → Option (ByteArray)
 | 0, _, _, _ => none
 | k + 1, x0, x3, x4 => if x4 < (x0.size : Int) then (if 0 ≤ x4 then (if 0 ≤ (wrap64 (x4 - 1)) then (if (wrap64 (x4 - 1)) < (x0.size : Int) then (if (bt x0 x4) ≥ (bt x0 (wrap64 (x4 - 1))) then (if x3.length < 140737488355328 then (mark_steps.l0 k x0 (x3 ++ [49]) (wrap64 (x4 + 1))) else (none)) else (if x3.length < 140737488355328 then (mark_steps.l0 k x0 (x3 ++ [48]) (wrap64 (x4 + 1))) else (none))) else (none)) else (none)) else (none)) else (some (strOfNums x3))
def mark_steps.f (k : Nat) (a0 : ByteArray) : Option (ByteArray) := mark_steps.l0 k a0 ([] : List Int) 1
set_option maxHeartbeats 8000000 in
set_option maxRecDepth 100000 in
theorem mark_steps.calls (k : Nat) (a0 : ByteArray) (r : ByteArray) (w : World) (h : mark_steps.f k a0 = some r) :
  Calls Tryz.prog 75 #[.string a0] w fun e w' => e = .returned (.string r) ∧ Below w.heap.size w w' := by
 have HB := aM (Below.refl w.heap.size w); have H : (mark_steps.l0 k a0 ([] : List Int) 1) = some r := h; clear h; have H' := aM H; clear H; go_enter Tryz.func75, Tryz.ntmps75
 go_wp2
 (repeat (go_quiet (fail); try go_wp2)); go_loopg [3, 4] k (fun kq v3 v4 w' => ∃ (x3_1 : List Int) (x4_1 : Int), v4 = .int .i64 x4_1 ∧ Aside0 (mark_steps.l0 kq a0 x3_1 x4_1 = some r) ∧ Aside0 (kq ≤ k) ∧ Aside0 (Kd.R (Kd.int .u8) 5 w' w.heap.size (fun _ => True) v3 x3_1) ∧ Aside0 (Below w.heap.size w w'))
 case atStart => exact ⟨(([] : List Int)), (1), tS, H', ⟨Nat.le_refl _⟩, ⟨by first | exact Kd.R_nil _ _ _ _ _ | exact Kd.N_nil _ _ _ _ _ | exact Kd.V_nil _ _ _ _ _ | exact Kd.Q_nil _ _ _ _ _ | exact Kd.S_nil _ _ _ _ _⟩, ⟨bB⟩⟩
 case round =>
  clear H'; obtain ⟨x3_1, x4_1, rfl, HA, HK1, HO_3, HB⟩ := hrel
  cases gk with
  | zero => exact absurd HA.out (by simp [mark_steps.l0])
  | succ k1 =>
   have H := HA.out; clear HA; simp only [mark_steps.l0] at H; by_cases c2 : x4_1 < (a0.size : Int)
   ·rw [if_pos c2] at H; have c2b0 := decide_eq_true c2; clear c2; by_cases c3 : 0 ≤ x4_1
    ·rw [if_pos c3] at H; have c3b0 := decide_eq_true c3; clear c3; obtain ⟨ji5, hji5⟩ : ∃ j_ : Int, (wrap64 (x4_1 - 1)) = j_ := ⟨_, rfl⟩; (replace H : (if 0 ≤ (ji5) then (if (ji5) < (a0.size : Int) then (if (bt a0 x4_1) ≥ (bt a0 (ji5)) then (if x3_1.length < 140737488355328 then (mark_steps.l0 k1 a0 (x3_1 ++ [49]) (wrap64 (x4_1 + 1))) else (none)) else (if x3_1.length < 140737488355328 then (mark_steps.l0 k1 a0 (x3_1 ++ [48]) (wrap64 (x4_1 + 1))) else (none))) else (none)) else (none)) = some r := by first | (rw [hji5] at H; exact H) | (simp only [hji5] at H ⊢; exact H)); have hji5w : (IntKind.i64.wrap (x4_1 - 1)) = ji5 := (i64_w _).trans hji5; by_cases c6 : 0 ≤ (ji5)
     ·rw [if_pos c6] at H; have c6b0 := decide_eq_true c6; clear c6; by_cases c7 : (ji5) < (a0.size : Int)
      ·rw [if_pos c7] at H; have c7b0 := decide_eq_true c7; clear c7; by_cases c9 : (bt a0 x4_1) ≥ (bt a0 (ji5))
       ·rw [if_pos c9] at H; have c9b0 : decide ((bt a0 (ji5)) ≤ (bt a0 x4_1)) = true := decide_eq_true c9; clear c9; by_cases c10 : x3_1.length < 140737488355328
        ·rw [if_pos c10] at H; have LMc10 := aM c10; clear c10; obtain ⟨y238, hy238⟩ : ∃ y_ : List Int, y_ = (x3_1 ++ [49]) := ⟨_, rfl⟩; replace H : (mark_steps.l0 k1 a0 y238 (wrap64 (x4_1 + 1))) = some r := tH hy238 H; have Ny238 := aM hy238; clear hy238; have H' := aM H; clear H; have p4 : 0 ≤ (x4_1 : Int) := tD; have q4 : x4_1 < (a0.size : Int) := tD; have hx4 := bt_at a0 x4_1; replace p4 := eq_true p4; replace q4 := eq_true q4; have p8 : 0 ≤ ((ji5) : Int) := tD; have q8 : (ji5) < (a0.size : Int) := tD; have hx8 := bt_at a0 (ji5); replace p8 := eq_true p8; replace q8 := eq_true q8
         go_wp2_with (first | ((with_reducible refine gate_builtin (b := .append) (xs := #[.tmp 19, .tmp 20]) rfl ?_); at_builtin; refine Kd.R_append (Kd.int .u8) (w0 := w) w.heap.size rfl (.tmp 19) (.tmp 20) 106 5 (.int .u8 0) 1 rfl Tryz.underlying106 info5 rfl (by decide) (by omega) u3 x3_1 49 [.int .u8 49] (fun _ => True) (fun _ => False) rfl rfl ?aP (fun _ hk => hk.elim) ?aF ?aO ?aB ?aS ?aL ?_; (case aP => exact rfl); (case aB => exact bB); (case aF => exact (fun _ _ => trivial)); (case aO => exact (vA HO_3.out)); (case aS => exact (below_size bB)); (case aL => have := LMc10.out; omega); intro v239 w11 ho hb hg hat; rw [← Ny238.out] at ho; replace HB := aM (hb); have HO240 := aM (ho); clear HO_3; clear ho hb hg hat))
         (repeat (go_quiet (first | ((with_reducible refine gate_builtin (b := .append) (xs := #[.tmp 19, .tmp 20]) rfl ?_); at_builtin; refine Kd.R_append (Kd.int .u8) (w0 := w) w.heap.size rfl (.tmp 19) (.tmp 20) 106 5 (.int .u8 0) 1 rfl Tryz.underlying106 info5 rfl (by decide) (by omega) u3 x3_1 49 [.int .u8 49] (fun _ => True) (fun _ => False) rfl rfl ?aP (fun _ hk => hk.elim) ?aF ?aO ?aB ?aS ?aL ?_; (case aP => exact rfl); (case aB => exact bB); (case aF => exact (fun _ _ => trivial)); (case aO => exact (vA HO_3.out)); (case aS => exact (below_size bB)); (case aL => have := LMc10.out; omega); intro v239 w11 ho hb hg hat; rw [← Ny238.out] at ho; have n0_ := aM (hb); have n1_ := aM (ho); clear HB; clear HO_3; have HB := n0_; have HO240 := n1_; clear n0_ n1_; clear ho hb hg hat)); try go_wp2_with (first | ((with_reducible refine gate_builtin (b := .append) (xs := #[.tmp 19, .tmp 20]) rfl ?_); at_builtin; refine Kd.R_append (Kd.int .u8) (w0 := w) w.heap.size rfl (.tmp 19) (.tmp 20) 106 5 (.int .u8 0) 1 rfl Tryz.underlying106 info5 rfl (by decide) (by omega) u3 x3_1 49 [.int .u8 49] (fun _ => True) (fun _ => False) rfl rfl ?aP (fun _ hk => hk.elim) ?aF ?aO ?aB ?aS ?aL ?_; (case aP => exact rfl); (case aB => exact bB); (case aF => exact (fun _ _ => trivial)); (case aO => exact (vA HO_3.out)); (case aS => exact (below_size bB)); (case aL => have := LMc10.out; omega); intro v239 w11 ho hb hg hat; rw [← Ny238.out] at ho; have n0_ := aM (hb); have n1_ := aM (ho); clear HB; clear HO_3; have HB := n0_; have HO240 := n1_; clear n0_ n1_; clear ho hb hg hat)))); go_roundg k1
         case measure => have := HK1.out; omega
         case rel => exact ⟨(y238), (wrap64 (x4_1 + 1)), tS, H', ⟨by have := HK1.out; omega⟩, ⟨vA HO240.out⟩, ⟨bB⟩⟩
        ·rw [if_neg c10] at H; exact absurd H (by simp)
       ·rw [if_neg c9] at H; have c9b0 : decide ((bt a0 (ji5)) ≤ (bt a0 x4_1)) = false := decide_eq_false c9; clear c9; by_cases c12 : x3_1.length < 140737488355328
        ·rw [if_pos c12] at H; have LMc12 := aM c12; clear c12; obtain ⟨y241, hy241⟩ : ∃ y_ : List Int, y_ = (x3_1 ++ [48]) := ⟨_, rfl⟩; replace H : (mark_steps.l0 k1 a0 y241 (wrap64 (x4_1 + 1))) = some r := tH hy241 H; have Ny241 := aM hy241; clear hy241; have H' := aM H; clear H; have p4 : 0 ≤ (x4_1 : Int) := tD; have q4 : x4_1 < (a0.size : Int) := tD; have hx4 := bt_at a0 x4_1; replace p4 := eq_true p4; replace q4 := eq_true q4; have p8 : 0 ≤ ((ji5) : Int) := tD; have q8 : (ji5) < (a0.size : Int) := tD; have hx8 := bt_at a0 (ji5); replace p8 := eq_true p8; replace q8 := eq_true q8
         go_wp2_with (first | ((with_reducible refine gate_builtin (b := .append) (xs := #[.tmp 22, .tmp 23]) rfl ?_); at_builtin; refine Kd.R_append (Kd.int .u8) (w0 := w) w.heap.size rfl (.tmp 22) (.tmp 23) 106 5 (.int .u8 0) 1 rfl Tryz.underlying106 info5 rfl (by decide) (by omega) u3 x3_1 48 [.int .u8 48] (fun _ => True) (fun _ => False) rfl rfl ?aP (fun _ hk => hk.elim) ?aF ?aO ?aB ?aS ?aL ?_; (case aP => exact rfl); (case aB => exact bB); (case aF => exact (fun _ _ => trivial)); (case aO => exact (vA HO_3.out)); (case aS => exact (below_size bB)); (case aL => have := LMc12.out; omega); intro v242 w13 ho hb hg hat; rw [← Ny241.out] at ho; replace HB := aM (hb); have HO243 := aM (ho); clear HO_3; clear ho hb hg hat))
         (repeat (go_quiet (first | ((with_reducible refine gate_builtin (b := .append) (xs := #[.tmp 22, .tmp 23]) rfl ?_); at_builtin; refine Kd.R_append (Kd.int .u8) (w0 := w) w.heap.size rfl (.tmp 22) (.tmp 23) 106 5 (.int .u8 0) 1 rfl Tryz.underlying106 info5 rfl (by decide) (by omega) u3 x3_1 48 [.int .u8 48] (fun _ => True) (fun _ => False) rfl rfl ?aP (fun _ hk => hk.elim) ?aF ?aO ?aB ?aS ?aL ?_; (case aP => exact rfl); (case aB => exact bB); (case aF => exact (fun _ _ => trivial)); (case aO => exact (vA HO_3.out)); (case aS => exact (below_size bB)); (case aL => have := LMc12.out; omega); intro v242 w13 ho hb hg hat; rw [← Ny241.out] at ho; have n0_ := aM (hb); have n1_ := aM (ho); clear HB; clear HO_3; have HB := n0_; have HO243 := n1_; clear n0_ n1_; clear ho hb hg hat)); try go_wp2_with (first | ((with_reducible refine gate_builtin (b := .append) (xs := #[.tmp 22, .tmp 23]) rfl ?_); at_builtin; refine Kd.R_append (Kd.int .u8) (w0 := w) w.heap.size rfl (.tmp 22) (.tmp 23) 106 5 (.int .u8 0) 1 rfl Tryz.underlying106 info5 rfl (by decide) (by omega) u3 x3_1 48 [.int .u8 48] (fun _ => True) (fun _ => False) rfl rfl ?aP (fun _ hk => hk.elim) ?aF ?aO ?aB ?aS ?aL ?_; (case aP => exact rfl); (case aB => exact bB); (case aF => exact (fun _ _ => trivial)); (case aO => exact (vA HO_3.out)); (case aS => exact (below_size bB)); (case aL => have := LMc12.out; omega); intro v242 w13 ho hb hg hat; rw [← Ny241.out] at ho; have n0_ := aM (hb); have n1_ := aM (ho); clear HB; clear HO_3; have HB := n0_; have HO243 := n1_; clear n0_ n1_; clear ho hb hg hat)))); go_roundg k1
         case measure => have := HK1.out; omega
         case rel => exact ⟨(y241), (wrap64 (x4_1 + 1)), tS, H', ⟨by have := HK1.out; omega⟩, ⟨vA HO243.out⟩, ⟨bB⟩⟩
        ·rw [if_neg c12] at H; exact absurd H (by simp)
      ·rw [if_neg c7] at H; exact absurd H (by simp)
     ·rw [if_neg c6] at H; exact absurd H (by simp)
    ·rw [if_neg c3] at H; exact absurd H (by simp)
   ·rw [if_neg c2] at H; have c2b0 := decide_eq_false c2; clear c2; obtain rfl := Option.some.inj H; have hcv14 := own_string (P := Tryz.prog) Tryz.underlying106 Tryz.underlying5 Tryz.underlying9 (Kd.own_of_R HO_3.out)
    go_wp2
    (repeat (go_quiet (fail); try go_wp2)); go_ret; exact ⟨tE, bB⟩
def mark_code_in.l0 : Nat → ByteArray → Int → Int → Int → Int → Int → Int → Int → Int → Option (Bool)
 | 0, _, _, _, _, _, _, _, _, _ => none
 | k + 1, x1, x5, x25, x26, x245000, x245001, x245002, x245003, x245004 => if x26 < x25 then (if 0 ≤ x26 then (if x26 < (x1.size : Int) then (mark_code_in.l0 k x1 (wrap64 (x5 + (((bt x1 x26) - 48) % 256))) x25 (wrap64 (x26 + 1)) x245000 x245001 x245002 x245003 x245004) else (none)) else (none)) else (if x245002 = 0 then (none) else (if (Int.tmod x5 x245002) = x245004 then ((mark_steps.f k x1).bind fun t246 => ((mark_sum.f k t246).bind fun t247 => (if x245001 = 0 then (none) else (some ((Int.tmod t247 x245001) == x245003))))) else (some false)))
def mark_code_in.f (k : Nat) (a0_0 : Int) (a0_1 : Int) (a0_2 : Int) (a0_3 : Int) (a0_4 : Int) (a1 : ByteArray) : Option (Bool) := if (a1.size : Int) = a0_1 then (if a0_0 = 0 then ((mark_sum.f k a1).bind fun t245 => (if (wrap64 (a0_1 + 1)) = 0 then (none) else (some ((Int.tmod t245 (wrap64 (a0_1 + 1))) == a0_3)))) else (mark_code_in.l0 k a1 0 (a1.size : Int) 0 a0_0 a0_1 a0_2 a0_3 a0_4)) else (some false)
def mark_code_in.T4 : Bool × List (List Nat × List Nat) := (true, [([], []), ([0], [0]), ([], []), ([2], [2]), ([3], [3]), ([1, 4], [1, 4]), ([], []), ([6], [6]), ([5, 7], [5, 7]), ([8, 1, 0, 1, 2, 3, 4, 5, 6, 7, 8], [8])])
def mark_code_in.B4 : List Nat := [0, 1, 0, 4, 12, 31, 0, 64, 255, 511]
theorem mark_code_in.tab4 : rtab .any (opsOf Tryz.f48 4) = mark_code_in.T4 := by kernel_rfl
theorem mark_code_in.bits4 : waitsOk mark_code_in.T4.2 mark_code_in.B4 = true := by kernel_rfl
def mark_code_in.T11 : Bool × List (List Nat × List Nat) := (true, [([], []), ([], []), ([1], [1]), ([0, 2], [0, 2]), ([], []), ([4], [4]), ([3, 5], [3, 5]), ([6], [6]), ([7], [7]), ([8, 7, 7], [7, 8]), ([9, 9, 7], [7, 9]), ([7], [7]), ([11, 7], [7, 11]), ([10, 12, 7], [7, 10, 12]), ([7], [7]), ([14, 7], [7, 14]), ([13, 15, 7], [7, 13, 15]), ([7, 16], [7, 16]), ([17, 10, 0, 1, 2, 3, 4, 5, 6, 7, 8, 9, 10, 11, 12, 13, 14, 15, 16, 17], [17])])
def mark_code_in.B11 : List Nat := [0, 0, 2, 7, 0, 16, 63, 127, 255, 511, 1023, 255, 2303, 8191, 255, 16639, 65535, 131071, 262143]
theorem mark_code_in.tab11 : rtab .any (opsOf Tryz.f48 11) = mark_code_in.T11 := by kernel_rfl
theorem mark_code_in.bits11 : waitsOk mark_code_in.T11.2 mark_code_in.B11 = true := by kernel_rfl
set_option maxHeartbeats 8000000 in
set_option maxRecDepth 100000 in
theorem mark_code_in.calls (k : Nat) (a0_0 : Int) (a0_1 : Int) (a0_2 : Int) (a0_3 : Int) (a0_4 : Int) (a1 : ByteArray) (r : Bool) (w : World) (h : mark_code_in.f k a0_0 a0_1 a0_2 a0_3 a0_4 a1 = some r) :
  Calls Tryz.prog 48 #[.agg #[.int .i64 a0_0, .int .i64 a0_1, .int .i64 a0_2, .int .i64 a0_3, .int .i64 a0_4], .string a1] w fun e w' => e = .returned (.bool r) ∧ Below w.heap.size w w' := by
 have hu68 := Tryz.underlying61; have HB := aM (Below.refl w.heap.size w); have H : (if (a1.size : Int) = a0_1 then (if a0_0 = 0 then ((mark_sum.f k a1).bind fun t245 => (if (wrap64 (a0_1 + 1)) = 0 then (none) else (some ((Int.tmod t245 (wrap64 (a0_1 + 1))) == a0_3)))) else (mark_code_in.l0 k a1 0 (a1.size : Int) 0 a0_0 a0_1 a0_2 a0_3 a0_4)) else (some false)) = some r := h; clear h; by_cases c3 : (a1.size : Int) = a0_1
 ·rw [if_pos c3] at H; have c3b0 : ((a1.size : Int) == a0_1) = true := beq_iff_eq.mpr c3; have c3b1 : ((a1.size : Int) != a0_1) = false := bne_eq_false_iff_eq.mpr c3; clear c3; by_cases c4 : a0_0 = 0
  ·rw [if_pos c4] at H; have c4b0 : (a0_0 == 0) = true := beq_iff_eq.mpr c4; have c4b1 : (a0_0 != 0) = false := bne_eq_false_iff_eq.mpr c4; clear c4; replace H := Option.bind_eq_some_iff.mp H; obtain ⟨t245, A50, H⟩ := H; (try dsimp -simprocs only at H); have A5 := aM A50; clear A50; by_cases c6 : (wrap64 (a0_1 + 1)) = 0
   ·rw [if_pos c6] at H; exact absurd H (by simp)
   ·rw [if_neg c6] at H; have c6b0 : ((wrap64 (a0_1 + 1)) == 0) = false := beq_eq_false_iff_ne.mpr c6; have c6b1 : ((wrap64 (a0_1 + 1)) != 0) = true := bne_iff_ne.mpr c6; obtain rfl := Option.some.inj H; go_enter Tryz.func48, Tryz.ntmps48; (try go_wp2_with (first | ((with_reducible refine gate_dst (N := 2) rfl ?_); refine box_event ?hg (N := 2) ?hd (cs := #[.int .i64 a0_0, .int .i64 a0_1, .int .i64 a0_2, .int .i64 a0_3, .int .i64 a0_4]) (t := 61) ?hr ?_; (case hd => rfl); (case hg => rfl); (case hr => first | (go_simp; done) | (go_simp; rfl)); intro gb244 hg w7 hbox hb; have BK244 := aM (hbox); have GW244 := aM ((by rw [hg]; exact (below_size bB) : w.heap.size ≤ gb244)); have GE244 := aM ((by rw [hg]; exact (below_size bB) : w.heap.size ≤ gb244)); replace HB := aM (below_step bB hb); clear hb hbox hg; have hcz8_0 : w7.cell? ⟨gb244, 0, none⟩ = some (.int .i64 a0_0) := (blk_cell BK244.out 0).trans rfl; have hcz8_1 : w7.cell? ⟨gb244, 1, none⟩ = some (.int .i64 a0_1) := (blk_cell BK244.out 1).trans rfl; have hcz8_2 : w7.cell? ⟨gb244, 2, none⟩ = some (.int .i64 a0_2) := (blk_cell BK244.out 2).trans rfl; have hcz8_3 : w7.cell? ⟨gb244, 3, none⟩ = some (.int .i64 a0_3) := (blk_cell BK244.out 3).trans rfl; have hcz8_4 : w7.cell? ⟨gb244, 4, none⟩ = some (.int .i64 a0_4) := (blk_cell BK244.out 4).trans rfl; have hfz8_0 := blk_frozen BK244.out 0; have hfz8_1 := blk_frozen BK244.out 1; have hfz8_2 := blk_frozen BK244.out 2; have hfz8_3 := blk_frozen BK244.out 3; have hfz8_4 := blk_frozen BK244.out 4))); replace BK244 := aM (blk_drew BK244.out); replace HB := aM (below_drew1 HB.out); refine start_ (n := 10) (S := fun w' => w'.cell? ⟨gb244, 0, none⟩ = some (.int .i64 a0_0) ∧ w'.cell? ⟨gb244, 1, none⟩ = some (.int .i64 a0_1) ∧ w'.cell? ⟨gb244, 2, none⟩ = some (.int .i64 a0_2) ∧ w'.cell? ⟨gb244, 3, none⟩ = some (.int .i64 a0_3) ∧ w'.cell? ⟨gb244, 4, none⟩ = some (.int .i64 a0_4)) (ds := []) #[false, false, false, false, false, false, false, false, false, false] (by kernel_rfl) rfl rfl ⟨(blk_cell BK244.out 0).trans rfl, (blk_cell BK244.out 1).trans rfl, (blk_cell BK244.out 2).trans rfl, (blk_cell BK244.out 3).trans rfl, (blk_cell BK244.out 4).trans rfl⟩ (fun hHeld => ?_); refine with_tabW mark_code_in.tab4 mark_code_in.bits4 (fun HT_ HW_ => ?_); generalize w7.drew = w9 at BK244 HB hHeld ⊢; refine pU 0 (some 15) ?_; refine pU 2 (some 17) ?_; refine pU 6 (some 21) ?_; refine pT5 3 (some 18) hHeld ?_; refine pU 4 (some 19) ?_; refine pT5 7 (some 22) hHeld ?_; refine oN 1 (some 16) (fun K hK => ?_); refine gO Tryz.func74 #[.string a1] ?_; (with_reducible refine (mark_sum.calls k a1 t245 _ A5.out).mono ?_); rintro e w' ⟨rfl, ⟨nd, rfl⟩⟩; refine ⟨_, rfl, ?_⟩; refine hK.out _ _ ⟨(blk_cell BK244.out 0).trans rfl, (blk_cell BK244.out 1).trans rfl, (blk_cell BK244.out 2).trans rfl, (blk_cell BK244.out 3).trans rfl, (blk_cell BK244.out 4).trans rfl⟩ (fun hHeld => ?_); clear hK K; refine norm_ (a' := ?_) ?_ ?_; rotate_left
    ·show Act.put _ (some 16) _ = _; simp only [Act.put, List.setIfInBounds_toArray, List.set_cons_zero, List.set_cons_succ, i64_w, i32_w]; rfl
    refine pU 5 (some 20) ?_; refine pU 8 (some 23) ?_; refine pU 9 (some 4) ?_; refine done_ (done_of HT_.out (by kernel_rfl)) ?_; (try go_wp2); go_ret; exact ⟨tE, bB⟩
  ·rw [if_neg c4] at H; have c4b0 : (a0_0 == 0) = false := beq_eq_false_iff_ne.mpr c4; have c4b1 : (a0_0 != 0) = true := bne_iff_ne.mpr c4; have H' := aM H; clear H; go_enter Tryz.func48, Tryz.ntmps48
   go_wp2_with (first | ((with_reducible refine gate_dst (N := 2) rfl ?_); refine box_event ?hg (N := 2) ?hd (cs := #[.int .i64 a0_0, .int .i64 a0_1, .int .i64 a0_2, .int .i64 a0_3, .int .i64 a0_4]) (t := 61) ?hr ?_; (case hd => rfl); (case hg => rfl); (case hr => first | (go_simp; done) | (go_simp; rfl)); intro gb244 hg w10 hbox hb; have BK244 := aM (hbox); have GW244 := aM ((by rw [hg]; exact (below_size bB) : w.heap.size ≤ gb244)); have GE244 := aM ((by rw [hg]; exact (below_size bB) : w.heap.size ≤ gb244)); replace HB := aM (below_step bB hb); clear hb hbox hg; have hcz11_0 : w10.cell? ⟨gb244, 0, none⟩ = some (.int .i64 a0_0) := (blk_cell BK244.out 0).trans rfl; have hcz11_1 : w10.cell? ⟨gb244, 1, none⟩ = some (.int .i64 a0_1) := (blk_cell BK244.out 1).trans rfl; have hcz11_2 : w10.cell? ⟨gb244, 2, none⟩ = some (.int .i64 a0_2) := (blk_cell BK244.out 2).trans rfl; have hcz11_3 : w10.cell? ⟨gb244, 3, none⟩ = some (.int .i64 a0_3) := (blk_cell BK244.out 3).trans rfl; have hcz11_4 : w10.cell? ⟨gb244, 4, none⟩ = some (.int .i64 a0_4) := (blk_cell BK244.out 4).trans rfl; have hfz11_0 := blk_frozen BK244.out 0; have hfz11_1 := blk_frozen BK244.out 1; have hfz11_2 := blk_frozen BK244.out 2; have hfz11_3 := blk_frozen BK244.out 3; have hfz11_4 := blk_frozen BK244.out 4))
   go_loopg [5, 26] k (fun kq v5 v26 w' => ∃ (x5_1 : Int) (x26_1 : Int), v5 = .int .i64 x5_1 ∧ v26 = .int .i64 x26_1 ∧ Aside0 (mark_code_in.l0 kq a1 x5_1 (a1.size : Int) x26_1 a0_0 a0_1 a0_2 a0_3 a0_4 = some r) ∧ Aside0 (kq ≤ k) ∧ Aside0 (w'.heap[gb244]? = some (.cells #[.int .i64 a0_0, .int .i64 a0_1, .int .i64 a0_2, .int .i64 a0_3, .int .i64 a0_4] 61 (0, 0))) ∧ Aside0 (Below w.heap.size w w'))
   case atStart => exact ⟨(0), (0), tS, tS, H', ⟨Nat.le_refl _⟩, ⟨kB BK244.out⟩, ⟨bB⟩⟩
   case round =>
    clear H'; obtain ⟨x5_1, x26_1, rfl, rfl, HA, HK1, BK244, HB⟩ := hrel
    cases gk with
    | zero => exact absurd HA.out (by simp [mark_code_in.l0])
    | succ k1 =>
     have H := HA.out; clear HA; simp only [mark_code_in.l0] at H; by_cases c12 : x26_1 < (a1.size : Int)
     ·rw [if_pos c12] at H; have c12b0 := decide_eq_true c12; clear c12; by_cases c13 : 0 ≤ x26_1
      ·rw [if_pos c13] at H; have c13b0 := decide_eq_true c13; clear c13; by_cases c14 : x26_1 < (a1.size : Int)
       ·rw [if_pos c14] at H; have c14b0 := decide_eq_true c14; clear c14; have H' := aM H; clear H; have p15 : 0 ≤ (x26_1 : Int) := tD; have q15 : x26_1 < (a1.size : Int) := tD; have hx15 := bt_at a1 x26_1; replace p15 := eq_true p15; replace q15 := eq_true q15
        go_wp2
        go_roundg k1
        case measure => have := HK1.out; omega
        case rel => exact ⟨(wrap64 (x5_1 + (((bt a1 x26_1) - 48) % 256))), (wrap64 (x26_1 + 1)), tS, tS, H', ⟨by have := HK1.out; omega⟩, ⟨kB BK244.out⟩, ⟨bB⟩⟩
       ·rw [if_neg c14] at H; exact absurd H (by simp)
      ·rw [if_neg c13] at H; exact absurd H (by simp)
     ·rw [if_neg c12] at H; have c12b0 := decide_eq_false c12; clear c12; by_cases c16 : a0_2 = 0
      ·rw [if_pos c16] at H; exact absurd H (by simp)
      ·rw [if_neg c16] at H; have c16b0 : (a0_2 == 0) = false := beq_eq_false_iff_ne.mpr c16; have c16b1 : (a0_2 != 0) = true := bne_iff_ne.mpr c16; by_cases c17 : (Int.tmod x5_1 a0_2) = a0_4
       ·rw [if_pos c17] at H; have c17b0 : ((Int.tmod x5_1 a0_2) == a0_4) = true := beq_iff_eq.mpr c17; have c17b1 : ((Int.tmod x5_1 a0_2) != a0_4) = false := bne_eq_false_iff_eq.mpr c17; clear c17; replace H := Option.bind_eq_some_iff.mp H; obtain ⟨t246, A180, H⟩ := H; (try dsimp -simprocs only at H); have A18 := aM A180; clear A180; replace H := Option.bind_eq_some_iff.mp H; obtain ⟨t247, A190, H⟩ := H; (try dsimp -simprocs only at H); have A19 := aM A190; clear A190; by_cases c20 : a0_1 = 0
        ·rw [if_pos c20] at H; exact absurd H (by simp)
        ·rw [if_neg c20] at H; have c20b0 : (a0_1 == 0) = false := beq_eq_false_iff_ne.mpr c20; have c20b1 : (a0_1 != 0) = true := bne_iff_ne.mpr c20; obtain rfl := Option.some.inj H; (try go_wp2); replace BK244 := aM (blk_drew BK244.out); replace HB := aM (below_drew1 HB.out); refine start_ (n := 19) (S := fun w' => w'.cell? ⟨gb244, 0, none⟩ = some (.int .i64 a0_0) ∧ w'.cell? ⟨gb244, 1, none⟩ = some (.int .i64 a0_1) ∧ w'.cell? ⟨gb244, 2, none⟩ = some (.int .i64 a0_2) ∧ w'.cell? ⟨gb244, 3, none⟩ = some (.int .i64 a0_3) ∧ w'.cell? ⟨gb244, 4, none⟩ = some (.int .i64 a0_4)) (ds := []) #[false, false, false, false, false, false, false, false, false, false, false, false, false, false, false, false, false, false, false] (by kernel_rfl) rfl rfl ⟨(blk_cell BK244.out 0).trans rfl, (blk_cell BK244.out 1).trans rfl, (blk_cell BK244.out 2).trans rfl, (blk_cell BK244.out 3).trans rfl, (blk_cell BK244.out 4).trans rfl⟩ (fun hHeld => ?_); refine with_tabW mark_code_in.tab11 mark_code_in.bits11 (fun HT_ HW_ => ?_); generalize wr.drew = w21 at BK244 HB hHeld ⊢; refine pU 0 (some 37) ?_; refine pU 1 (some 38) ?_; refine pU 4 (some 41) ?_; refine pT5 2 (some 39) hHeld ?_; refine pU 3 (some 40) ?_; refine pT5 5 (some 42) hHeld ?_; refine pU 6 (some 43) ?_; refine pU 7 (some 44) ?_; refine pU 8 (some 45) ?_; refine pU 11 (some 48) ?_; refine pU 14 (some 51) ?_; refine pT5 12 (some 49) hHeld ?_; refine pT5 15 (some 52) hHeld ?_; refine oN 9 (some 46) (fun K hK => ?_); refine gO Tryz.func75 #[.string a1] ?_; (with_reducible refine (mark_steps.calls k1 a1 t246 _ A18.out).mono ?_); rintro e w22 ⟨rfl, hb⟩; refine ⟨_, rfl, ?_⟩; replace BK244 := aM (blk_below (g := gb244) (o := .cells #[.int .i64 a0_0, .int .i64 a0_1, .int .i64 a0_2, .int .i64 a0_3, .int .i64 a0_4] 61 (0, 0)) (kB BK244.out) hb); replace HB := aM (below_step bB hb); (try clear hb); (try clear hb2); (try clear hk); (try clear hi); refine hK.out _ _ ⟨(blk_cell BK244.out 0).trans rfl, (blk_cell BK244.out 1).trans rfl, (blk_cell BK244.out 2).trans rfl, (blk_cell BK244.out 3).trans rfl, (blk_cell BK244.out 4).trans rfl⟩ (fun hHeld => ?_); clear hK K; refine norm_ (a' := ?_) ?_ ?_; rotate_left
         ·show Act.put _ (some 46) _ = _; simp only [Act.put, List.setIfInBounds_toArray, List.set_cons_zero, List.set_cons_succ, i64_w, i32_w]; rfl
         refine oN 10 (some 47) (fun K hK => ?_); refine gO Tryz.func74 #[.string t246] ?_; (with_reducible refine (mark_sum.calls k1 t246 t247 _ A19.out).mono ?_); rintro e w' ⟨rfl, ⟨nd, rfl⟩⟩; refine ⟨_, rfl, ?_⟩; refine hK.out _ _ ⟨(blk_cell BK244.out 0).trans rfl, (blk_cell BK244.out 1).trans rfl, (blk_cell BK244.out 2).trans rfl, (blk_cell BK244.out 3).trans rfl, (blk_cell BK244.out 4).trans rfl⟩ (fun hHeld => ?_); clear hK K; refine norm_ (a' := ?_) ?_ ?_; rotate_left
         ·show Act.put _ (some 47) _ = _; simp only [Act.put, List.setIfInBounds_toArray, List.set_cons_zero, List.set_cons_succ, i64_w, i32_w]; rfl
         refine pU 13 (some 50) ?_; refine pU 16 (some 53) ?_; refine pU 17 (some 54) ?_; refine pU 18 (some 4) ?_; refine done_ (done_of HT_.out (by kernel_rfl)) ?_; (try go_wp2); go_ret; exact ⟨tE, bB⟩
       ·rw [if_neg c17] at H; have c17b0 : ((Int.tmod x5_1 a0_2) == a0_4) = false := beq_eq_false_iff_ne.mpr c17; have c17b1 : ((Int.tmod x5_1 a0_2) != a0_4) = true := bne_iff_ne.mpr c17; obtain rfl := Option.some.inj H; (try go_wp2); replace BK244 := aM (blk_drew BK244.out); replace HB := aM (below_drew1 HB.out); refine start_ (n := 19) (S := fun w' => w'.cell? ⟨gb244, 0, none⟩ = some (.int .i64 a0_0) ∧ w'.cell? ⟨gb244, 1, none⟩ = some (.int .i64 a0_1) ∧ w'.cell? ⟨gb244, 2, none⟩ = some (.int .i64 a0_2) ∧ w'.cell? ⟨gb244, 3, none⟩ = some (.int .i64 a0_3) ∧ w'.cell? ⟨gb244, 4, none⟩ = some (.int .i64 a0_4)) (ds := []) #[false, false, false, false, false, false, false, false, false, false, false, false, false, false, false, false, false, false, false] (by kernel_rfl) rfl rfl ⟨(blk_cell BK244.out 0).trans rfl, (blk_cell BK244.out 1).trans rfl, (blk_cell BK244.out 2).trans rfl, (blk_cell BK244.out 3).trans rfl, (blk_cell BK244.out 4).trans rfl⟩ (fun hHeld => ?_); refine with_tabW mark_code_in.tab11 mark_code_in.bits11 (fun HT_ HW_ => ?_); generalize wr.drew = w23 at BK244 HB hHeld ⊢; refine pU 0 (some 37) ?_; refine pU 1 (some 38) ?_; refine pU 4 (some 41) ?_; refine pT5 2 (some 39) hHeld ?_; refine pU 3 (some 40) ?_; refine pT5 5 (some 42) hHeld ?_; refine pU 6 (some 43) ?_; refine pU 7 (some 44) ?_; refine pure_ (i := 8) (N := some 45) (v := undef) (a' := ?_) #[true, true, true, true, true, true, true, true, true, false, false, false, false, false, false, false, false, false, false] rfl rfl (any_of HT_.out (by kernel_rfl)) (fun _ _ _ h => h) (Or.inr ⟨by rfl, rfl⟩) ?_ ?_; rotate_left
        ·simp only [Act.put, List.setIfInBounds_toArray, List.set_cons_zero, List.set_cons_succ, i64_w, i32_w]; rfl
        refine pure_ (i := 9) (N := some 46) (v := undef) (a' := ?_) #[true, true, true, true, true, true, true, true, true, true, false, false, false, false, false, false, false, false, false] rfl rfl (any_of HT_.out (by kernel_rfl)) (fun _ _ _ h => h) (Or.inr ⟨by rfl, rfl⟩) ?_ ?_; rotate_left
        ·simp only [Act.put, List.setIfInBounds_toArray, List.set_cons_zero, List.set_cons_succ, i64_w, i32_w]; rfl
        refine pure_ (i := 10) (N := some 47) (v := undef) (a' := ?_) #[true, true, true, true, true, true, true, true, true, true, true, false, false, false, false, false, false, false, false] rfl rfl (any_of HT_.out (by kernel_rfl)) (fun _ _ _ h => h) (Or.inr ⟨by rfl, rfl⟩) ?_ ?_; rotate_left
        ·simp only [Act.put, List.setIfInBounds_toArray, List.set_cons_zero, List.set_cons_succ, i64_w, i32_w]; rfl
        refine pure_ (i := 11) (N := some 48) (v := undef) (a' := ?_) #[true, true, true, true, true, true, true, true, true, true, true, true, false, false, false, false, false, false, false] rfl rfl (any_of HT_.out (by kernel_rfl)) (fun _ _ _ h => h) (Or.inr ⟨by rfl, rfl⟩) ?_ ?_; rotate_left
        ·simp only [Act.put, List.setIfInBounds_toArray, List.set_cons_zero, List.set_cons_succ, i64_w, i32_w]; rfl
        refine pure_ (i := 12) (N := some 49) (v := undef) (a' := ?_) #[true, true, true, true, true, true, true, true, true, true, true, true, true, false, false, false, false, false, false] rfl rfl (any_of HT_.out (by kernel_rfl)) (fun _ _ _ h => h) (Or.inr ⟨by rfl, rfl⟩) ?_ ?_; rotate_left
        ·simp only [Act.put, List.setIfInBounds_toArray, List.set_cons_zero, List.set_cons_succ, i64_w, i32_w]; rfl
        refine pure_ (i := 13) (N := some 50) (v := undef) (a' := ?_) #[true, true, true, true, true, true, true, true, true, true, true, true, true, true, false, false, false, false, false] rfl rfl (any_of HT_.out (by kernel_rfl)) (fun _ _ _ h => h) (Or.inr ⟨by rfl, rfl⟩) ?_ ?_; rotate_left
        ·simp only [Act.put, List.setIfInBounds_toArray, List.set_cons_zero, List.set_cons_succ, i64_w, i32_w]; rfl
        refine pure_ (i := 14) (N := some 51) (v := undef) (a' := ?_) #[true, true, true, true, true, true, true, true, true, true, true, true, true, true, true, false, false, false, false] rfl rfl (any_of HT_.out (by kernel_rfl)) (fun _ _ _ h => h) (Or.inr ⟨by rfl, rfl⟩) ?_ ?_; rotate_left
        ·simp only [Act.put, List.setIfInBounds_toArray, List.set_cons_zero, List.set_cons_succ, i64_w, i32_w]; rfl
        refine pure_ (i := 15) (N := some 52) (v := undef) (a' := ?_) #[true, true, true, true, true, true, true, true, true, true, true, true, true, true, true, true, false, false, false] rfl rfl (any_of HT_.out (by kernel_rfl)) (fun _ _ _ h => h) (Or.inr ⟨by rfl, rfl⟩) ?_ ?_; rotate_left
        ·simp only [Act.put, List.setIfInBounds_toArray, List.set_cons_zero, List.set_cons_succ, i64_w, i32_w]; rfl
        refine pure_ (i := 16) (N := some 53) (v := undef) (a' := ?_) #[true, true, true, true, true, true, true, true, true, true, true, true, true, true, true, true, true, false, false] rfl rfl (any_of HT_.out (by kernel_rfl)) (fun _ _ _ h => h) (Or.inr ⟨by rfl, rfl⟩) ?_ ?_; rotate_left
        ·simp only [Act.put, List.setIfInBounds_toArray, List.set_cons_zero, List.set_cons_succ, i64_w, i32_w]; rfl
        refine pU 17 (some 54) ?_; refine pU 18 (some 4) ?_; refine done_ (done_of HT_.out (by kernel_rfl)) ?_; (try go_wp2); go_ret; exact ⟨tE, bB⟩
 ·rw [if_neg c3] at H; have c3b0 : ((a1.size : Int) == a0_1) = false := beq_eq_false_iff_ne.mpr c3; have c3b1 : ((a1.size : Int) != a0_1) = true := bne_iff_ne.mpr c3; obtain rfl := Option.some.inj H; go_enter Tryz.func48, Tryz.ntmps48
  go_wp2_with (first | ((with_reducible refine gate_dst (N := 2) rfl ?_); refine box_event ?hg (N := 2) ?hd (cs := #[.int .i64 a0_0, .int .i64 a0_1, .int .i64 a0_2, .int .i64 a0_3, .int .i64 a0_4]) (t := 61) ?hr ?_; (case hd => rfl); (case hg => rfl); (case hr => first | (go_simp; done) | (go_simp; rfl)); intro gb244 hg w24 hbox hb; have BK244 := aM (hbox); have GW244 := aM ((by rw [hg]; exact (below_size bB) : w.heap.size ≤ gb244)); have GE244 := aM ((by rw [hg]; exact (below_size bB) : w.heap.size ≤ gb244)); replace HB := aM (below_step bB hb); clear hb hbox hg; have hcz25_0 : w24.cell? ⟨gb244, 0, none⟩ = some (.int .i64 a0_0) := (blk_cell BK244.out 0).trans rfl; have hcz25_1 : w24.cell? ⟨gb244, 1, none⟩ = some (.int .i64 a0_1) := (blk_cell BK244.out 1).trans rfl; have hcz25_2 : w24.cell? ⟨gb244, 2, none⟩ = some (.int .i64 a0_2) := (blk_cell BK244.out 2).trans rfl; have hcz25_3 : w24.cell? ⟨gb244, 3, none⟩ = some (.int .i64 a0_3) := (blk_cell BK244.out 3).trans rfl; have hcz25_4 : w24.cell? ⟨gb244, 4, none⟩ = some (.int .i64 a0_4) := (blk_cell BK244.out 4).trans rfl; have hfz25_0 := blk_frozen BK244.out 0; have hfz25_1 := blk_frozen BK244.out 1; have hfz25_2 := blk_frozen BK244.out 2; have hfz25_3 := blk_frozen BK244.out 3; have hfz25_4 := blk_frozen BK244.out 4))
  go_ret; exact ⟨tE, bB⟩
end Go.Proofs.YtopmcoohdhlnaaaGreatDoor.Pa
namespace Go.Proofs.YtopmcoohdhlnaaaGreatDoor.Pa
end Go.Proofs.YtopmcoohdhlnaaaGreatDoor.Pa
namespace Go.Proofs.YtopmcoohdhlnaaaGreatDoor.M
open Go.RowKit Go.Proofs.YtopmcoohdhlnaaaGreatDoorW.PrintWords Go.Proofs.YtopmcoohdhlnaaaGreatDoorW.PrintLast
open Pa
set_option linter.unusedVariables false
/-- The sum of the numbers of the letters 1, numbered from i on. -/
def vtF : Nat → List UInt8 → Nat
 | _, [] => 0
 | i, b :: r => (if b = 49 then i else 0) + vtF (i + 1) r
def vt (x : ByteArray) : Nat := vtF 1 x.data.toList
theorem bt_nat (x : ByteArray) (i : Nat) (h : i < x.size) : bt x (i : Int) = ((x[i]'h).toNat : Int) := by
 unfold bt; simp [h]
theorem bytes_drop (x : ByteArray) (i : Nat) (h : i < x.size) : x.data.toList.drop i = (x[i]'h) :: x.data.toList.drop (i + 1) := by
 rw [List.drop_eq_getElem_cons (by simpa using h)]; rfl
theorem toNat_49 (b : UInt8) : ((b.toNat : Int) = 49) ↔ b = 49 := by
 constructor
 ·intro h; apply UInt8.toNat_inj.1
  have : b.toNat = 49 := by omega
  rw [this]; rfl
 ·rintro rfl; rfl
theorem w64 {x : Int} (h0 : -1000000000000 ≤ x) (h1 : x ≤ 1000000000000) : wrap64 x = x := by unfold wrap64; omega
theorem w64n (a : Nat) (h : a ≤ 1000000000000) : wrap64 (a : Int) = (a : Int) := w64 (by omega) (by omega)
theorem w64add (a b : Nat) (h : a + b ≤ 1000000000000) : wrap64 ((a : Int) + (b : Int)) = ((a + b : Nat) : Int) := by
 rw [← Int.natCast_add]; exact w64n _ h
theorem w64succ (a : Nat) (h : a + 1 ≤ 1000000000000) : wrap64 ((a : Int) + 1) = ((a + 1 : Nat) : Int) := w64add a 1 h
theorem sum_loop (x : ByteArray) (hx : x.size ≤ 100000) (d : Nat) : ∀ (k i acc : Nat), x.size - i = d → i ≤ x.size → d < k → acc + (x.size - i) * (i + 1 + (x.size - i)) ≤ 100000000000 →
  mark_sum.l0 k x (acc : Int) (x.size : Int) (i : Int) = some ((acc + vtF (i + 1) (x.data.toList.drop i) : Nat) : Int) := by
 induction d with
 | zero =>
  intro k i acc hd hi hk hb; obtain ⟨k, rfl⟩ : ∃ m, k = m + 1 := ⟨k - 1, by omega⟩
  have : x.data.toList.drop i = [] := List.drop_eq_nil_of_le (by simp; show x.size ≤ i; omega)
  rw [this]; simp only [mark_sum.l0]; rw [if_neg (by omega)]
  simp [vtF]
 | succ d ih =>
  intro k i acc hd hi hk hb; obtain ⟨k, rfl⟩ : ∃ m, k = m + 1 := ⟨k - 1, by omega⟩; have hlt : i < x.size := by omega
  have hmul : (x.size - (i + 1)) * (i + 1 + 1 + (x.size - (i + 1))) + (i + 1 + (x.size - i)) = (x.size - i) * (i + 1 + (x.size - i)) := by
   (have e1 : x.size - i = (x.size - (i + 1)) + 1 := by omega); rw [e1, Nat.add_mul, Nat.one_mul]; (have e2 : i + 1 + 1 + (x.size - (i + 1)) = i + 1 + (x.size - (i + 1) + 1) := by omega); rw [e2]
  simp only [mark_sum.l0]; rw [if_pos (by omega), if_pos (by omega), if_pos (by omega), bt_nat x i hlt, bytes_drop x i hlt]; (have ew : wrap64 ((i : Int) + 1) = ((i + 1 : Nat) : Int) := by rw [w64 (by omega) (by omega)]; omega); rw [ew]; by_cases hb1 : (x[i]'hlt) = 49
  ·rw [if_pos ((toNat_49 _).2 hb1)]; (have ew2 : wrap64 ((acc : Int) + ((i + 1 : Nat) : Int)) = ((acc + (i + 1) : Nat) : Int) := by rw [w64 (by omega) (by omega)]; omega); rw [ew2, ih k (i + 1) (acc + (i + 1)) (by omega) (by omega) (by omega) (by omega)]; simp only [vtF, hb1, if_true]; congr 2; omega
  ·rw [if_neg (fun h => hb1 ((toNat_49 _).1 h))]; rw [ih k (i + 1) acc (by omega) (by omega) (by omega) (by omega)]; simp only [vtF, if_neg hb1]; congr 2; omega
theorem sum_ev (x : ByteArray) (hx : x.size ≤ 100000) (k : Nat) (hk : x.size < k) : mark_sum.f k x = some (vt x : Int) := by
 have hb : 0 + (x.size - 0) * (0 + 1 + (x.size - 0)) ≤ 100000000000 := by
  have : (x.size - 0) * (0 + 1 + (x.size - 0)) ≤ 100000 * 100001 := Nat.mul_le_mul (by omega) (by omega)
  omega
 have h := sum_loop x hx x.size k 0 0 (by omega) (by omega) hk hb; unfold mark_sum.f; simpa [vt] using h
theorem beq_nat (u a : Nat) : ((u : Int) == (a : Int)) = decide (u = a) := by
 by_cases h : u = a
 ·subst h; simp
 ·simp [h]; omega
/-- The word's place in the code of letters. -/
def inL (n a : Nat) (x : ByteArray) : Bool := decide (x.size = n) && decide (vt x % (n + 1) = a)
theorem tmod_nat (u n : Nat) : Int.tmod (u : Int) ((n : Nat) : Int) = ((u % n : Nat) : Int) := by
 rw [Int.tmod_eq_emod_of_nonneg (by omega)]; rfl
theorem in_eq (n a : Nat) (x : ByteArray) (q b : Int) (k : Nat) : mark_code_in.f k 0 n q a b x = if (x.size : Int) = (n : Int) then ((mark_sum.f k x).bind fun t => if wrap64 ((n : Int) + 1) = 0 then none else some (Int.tmod t (wrap64 ((n : Int) + 1)) == (a : Int))) else some false := by
 unfold mark_code_in.f; rfl
theorem in_ev (n a : Nat) (x : ByteArray) (q b : Int) (hn : n ≤ 100000) (k : Nat) (hk : n < k) : mark_code_in.f k 0 n q a b x = some (inL n a x) := by
 rw [in_eq]; unfold inL; by_cases hs : x.size = n
 ·subst hs; (have ew : wrap64 ((x.size : Int) + 1) = ((x.size + 1 : Nat) : Int) := by rw [w64 (by omega) (by omega)]; rfl); rw [if_pos rfl, sum_ev x hn k hk, Option.bind_some, ew, if_neg (by omega), tmod_nat, beq_nat, decide_eq_true rfl, Bool.true_and]
 ·rw [if_neg (by omega), decide_eq_false hs, Bool.false_and]
/-- The steps of digits. -/
def stepsF : List UInt8 → List UInt8
 | [] => []
 | [_] => []
 | a :: b :: r => (if a.toNat ≤ b.toNat then 49 else 48) :: stepsF (b :: r)
def dval (b : UInt8) : Nat := (b.toNat + 208) % 256
def dsum (l : List UInt8) : Nat := (l.map dval).sum
theorem dval_int (b : UInt8) : ((b.toNat : Int) - 48) % 256 = (dval b : Int) := by
 unfold dval
 have : b.toNat < 256 := UInt8.toNat_lt b
 omega
def numsF (l : List UInt8) : List Int := l.map fun b => (b.toNat : Int)
theorem strOfNums_numsF (l : List UInt8) : strOfNums (numsF l) = ⟨l.toArray⟩ := by
 unfold strOfNums numsF; congr 2; rw [List.map_map]
 conv => rhs; rw [← List.map_id l]
 congr 1; funext b; simp
theorem steps_loop (x : ByteArray) (hx : x.size ≤ 100000) (d : Nat) : ∀ (k i : Nat) (acc : List UInt8), x.size - (i + 1) = d → i < x.size → d < k → acc.length = i →
  mark_steps.l0 k x (numsF acc) ((i + 1 : Nat) : Int) = some ⟨(acc ++ stepsF (x.data.toList.drop i)).toArray⟩ := by
 induction d with
 | zero =>
  intro k i acc hd hi hk hl; obtain ⟨k, rfl⟩ : ∃ m, k = m + 1 := ⟨k - 1, by omega⟩; rw [bytes_drop x i hi]
  have : x.data.toList.drop (i + 1) = [] := List.drop_eq_nil_of_le (by simp; show x.size ≤ i + 1; omega)
  rw [this]; simp only [mark_steps.l0]; rw [if_neg (by omega), strOfNums_numsF]
  simp [stepsF]
 | succ d ih =>
  intro k i acc hd hi hk hl; obtain ⟨k, rfl⟩ : ∃ m, k = m + 1 := ⟨k - 1, by omega⟩; (have hi1 : i + 1 < x.size := by omega); (have ew : wrap64 (((i + 1 : Nat) : Int) - 1) = (i : Int) := by rw [w64 (by omega) (by omega)]; omega); (have ew2 : wrap64 (((i + 1 : Nat) : Int) + 1) = ((i + 1 + 1 : Nat) : Int) := by rw [w64 (by omega) (by omega)]; omega); (have hlen : (numsF acc).length = i := by simp [numsF, hl]); simp only [mark_steps.l0]; rw [if_pos (by omega), if_pos (by omega), ew, if_pos (by omega), if_pos (by omega), bt_nat x (i + 1) hi1, bt_nat x i hi, ew2, hlen]; rw [bytes_drop x i hi, bytes_drop x (i + 1) hi1]; by_cases hc : (x[i]'hi).toNat ≤ (x[i + 1]'hi1).toNat
  ·rw [if_pos (by omega), if_pos (by omega)]; have := ih k (i + 1) (acc ++ [49]) (by omega) hi1 (by omega) (by simp [hl]); rw [show numsF acc ++ [49] = numsF (acc ++ [49]) from by simp [numsF], this, bytes_drop x (i + 1) hi1]; simp [stepsF, hc]
  ·rw [if_neg (by omega), if_pos (by omega)]; have := ih k (i + 1) (acc ++ [48]) (by omega) hi1 (by omega) (by simp [hl]); rw [show numsF acc ++ [48] = numsF (acc ++ [48]) from by simp [numsF], this, bytes_drop x (i + 1) hi1]; simp [stepsF, hc]
theorem steps_ev (x : ByteArray) (hx : x.size ≤ 100000) (k : Nat) (hk : x.size < k) : mark_steps.f k x = some ⟨(stepsF x.data.toList).toArray⟩ := by
 unfold mark_steps.f; by_cases h0 : x.size = 0
 ·obtain ⟨k, rfl⟩ : ∃ m, k = m + 1 := ⟨k - 1, by omega⟩
  have : x.data.toList = [] := List.eq_nil_of_length_eq_zero (by simpa using h0)
  rw [this]; simp only [mark_steps.l0]; rw [if_neg (by omega)]; rfl
 ·have := steps_loop x hx (x.size - 1) k 0 [] (by omega) (by omega) (by omega) rfl; simpa [numsF] using this
theorem stepsF_length : ∀ l : List UInt8, (stepsF l).length = l.length - 1
 | [] => rfl
 | [_] => rfl
 | a :: b :: r => by
  have := stepsF_length (b :: r); simp only [stepsF, List.length_cons] at this ⊢; omega
/-- The word's place in the code of digits. -/
def inD (n q a b : Nat) (x : ByteArray) : Bool := decide (x.size = n) && (decide (dsum x.data.toList % q = b) && decide (vtF 1 (stepsF x.data.toList) % n = a))
theorem ind_loop (x : ByteArray) (hx : x.size ≤ 100000) (n q a b : Nat) (hn : 0 < n) (hq : 0 < q) (d : Nat) : ∀ (k i acc : Nat), x.size - i = d → i ≤ x.size → d + x.size + 1 < k → acc + 255 * (x.size - i) ≤ 1000000000 →
  mark_code_in.l0 k x (acc : Int) (x.size : Int) (i : Int) 1 n q a b = some (decide ((acc + dsum (x.data.toList.drop i)) % q = b) && decide (vtF 1 (stepsF x.data.toList) % n = a)) := by
 induction d with
 | zero =>
  intro k i acc hd hi hk hb; obtain ⟨k, rfl⟩ : ∃ m, k = m + 1 := ⟨k - 1, by omega⟩
  have : x.data.toList.drop i = [] := List.drop_eq_nil_of_le (by simp; show x.size ≤ i; omega)
  rw [this]; simp only [mark_code_in.l0]; rw [if_neg (by omega), if_neg (by omega), tmod_nat]; (have e0 : acc + dsum [] = acc := by simp [dsum]); rw [e0]; by_cases hb1 : acc % q = b
  ·rw [if_pos (by omega), decide_eq_true hb1, Bool.true_and, steps_ev x hx k (by omega)]; simp only [Option.bind_some]
   have hs : (⟨(stepsF x.data.toList).toArray⟩ : ByteArray).size = x.size - 1 := by
    show (stepsF x.data.toList).toArray.size = _; rw [List.size_toArray, stepsF_length, Array.length_toList]; rfl
   rw [sum_ev _ (by omega) k (by omega)]; simp only [Option.bind_some]; rw [if_neg (by omega), tmod_nat, beq_nat]; rfl
  ·rw [if_neg (by omega), decide_eq_false hb1, Bool.false_and]
 | succ d ih =>
  intro k i acc hd hi hk hb; obtain ⟨k, rfl⟩ : ∃ m, k = m + 1 := ⟨k - 1, by omega⟩; (have hlt : i < x.size := by omega); rw [bytes_drop x i hlt]; have hbt := bt_nat x i hlt; obtain ⟨c, hc⟩ : ∃ c, (x[i]'hlt) = c := ⟨_, rfl⟩; rw [hc] at hbt ⊢; (have hdv : dval c ≤ 255 := by unfold dval; omega); (have hcons : dsum (c :: x.data.toList.drop (i + 1)) = dval c + dsum (x.data.toList.drop (i + 1)) := by simp only [dsum, List.map_cons, List.sum_cons]); rw [hcons]; have hdi := dval_int c; obtain ⟨v, hv⟩ : ∃ v, dval c = v := ⟨_, rfl⟩; rw [hv] at hdv hdi ⊢; (have h1 : x.size - (i + 1) = d := by omega); (have h2 : i + 1 ≤ x.size := by omega); (have h3 : d + x.size + 1 < k := by omega); (have h4 : acc + v + 255 * (x.size - (i + 1)) ≤ 1000000000 := by omega); have h := ih k (i + 1) (acc + v) h1 h2 h3 h4; (have c1 : (i : Int) < (x.size : Int) := by omega); (have c2 : (0 : Int) ≤ (i : Int) := by omega); (have b1 : i + 1 ≤ 1000000000000 := by omega); (have b2 : acc + v ≤ 1000000000000 := by omega); have ew := w64succ i b1; have ew2 := w64add acc v b2; clear hb ih h1 h2 h3 h4; simp only [mark_code_in.l0]; rw [if_pos c1, if_pos c2, if_pos c1, hbt, hdi, ew, ew2, h, Nat.add_assoc]
theorem in_eqD (n a : Nat) (x : ByteArray) (q b : Int) (k : Nat) : mark_code_in.f k 1 n q a b x = if (x.size : Int) = (n : Int) then mark_code_in.l0 k x 0 (x.size : Int) 0 1 n q a b else some false := by
 unfold mark_code_in.f; rw [if_neg (show ¬ ((1 : Int) = 0) by decide)]
theorem ind_ev (n q a b : Nat) (x : ByteArray) (hn0 : 0 < n) (hq : 0 < q) (hn : n ≤ 100000) (k : Nat) (hk : 2 * n + 1 < k) : mark_code_in.f k 1 n q a b x = some (inD n q a b x) := by
 rw [in_eqD]; unfold inD; by_cases hs : x.size = n
 ·subst hs; have h := ind_loop x hn x.size q a b hn0 hq x.size k 0 0 (by omega) (by omega) (by omega) (by omega); rw [if_pos rfl, decide_eq_true rfl, Bool.true_and]; rw [show ((0 : Nat) : Int) = 0 from rfl] at h; rw [h, List.drop_zero, Nat.zero_add]
 ·rw [if_neg (by omega), decide_eq_false hs, Bool.false_and]
end Go.Proofs.YtopmcoohdhlnaaaGreatDoor.M
namespace Go.Proofs.YtopmcoohdhlnaaaGreatDoor.G
open Go.RowKit Go.Lib Go.Proofs.YtopmcoohdhlnaaaGreatDoorW.PrintWords Go.Proofs.YtopmcoohdhlnaaaGreatDoorW.PrintLast Go.Proofs.YtopmcoohdhlnaaaGreatDoorW.PrintMore
set_option linter.unusedVariables false
/-- Is a word one of a code? -/
def inB (kind n q a b : Int) (x : ByteArray) : Bool := if kind = 0 then M.inL n.toNat a.toNat x else M.inD n.toNat q.toNat a.toNat b.toNat x
/-- The numbers of a code that the program makes. -/
def okCode (kind n q a b : Int) : Prop := 0 ≤ n ∧ n ≤ 1000 ∧ 0 ≤ a ∧ (kind = 0 ∨ kind = 1 ∧ 0 < n ∧ 0 < q ∧ 0 ≤ b)
instance (kind n q a b : Int) : Decidable (okCode kind n q a b) := by unfold okCode; exact inferInstance
theorem in_evB (kind n q a b : Int) (x : ByteArray) (h : okCode kind n q a b) : Pa.mark_code_in.f 3000 kind n q a b x = some (inB kind n q a b x) := by
 obtain ⟨hn0, hn, ha, hk⟩ := h; obtain ⟨n, rfl⟩ := Int.eq_ofNat_of_zero_le hn0; obtain ⟨a, rfl⟩ := Int.eq_ofNat_of_zero_le ha; (have hn' : n ≤ 1000 := by omega); unfold inB; rcases hk with rfl | ⟨rfl, h1, h2, h3⟩
 ·rw [if_pos rfl, Int.toNat_natCast, Int.toNat_natCast]; exact M.in_ev n a x q b (by omega) 3000 (by omega)
 ·obtain ⟨q, rfl⟩ := Int.eq_ofNat_of_zero_le (Int.le_of_lt h2); obtain ⟨b, rfl⟩ := Int.eq_ofNat_of_zero_le h3; rw [if_neg (by decide), Int.toNat_natCast, Int.toNat_natCast, Int.toNat_natCast, Int.toNat_natCast]; exact M.ind_ev n q a b x (by omega) (by omega) (by omega) 3000 (by omega)
theorem in_calls (a0 a1 a2 a3 a4 : Int) (x : ByteArray) (w : World) (h : okCode a0 a1 a2 a3 a4) :
  Calls Tryz.prog 48 #[.agg #[.int .i64 a0, .int .i64 a1, .int .i64 a2, .int .i64 a3, .int .i64 a4], .string x] w fun e w' => e = .returned (.bool (inB a0 a1 a2 a3 a4 x)) ∧ Below w.heap.size w w' :=
 Pa.mark_code_in.calls 3000 a0 a1 a2 a3 a4 x _ w (in_evB a0 a1 a2 a3 a4 x h)
theorem rd_nat8 (l : List ByteArray) (k : Nat) (h : k < l.length) : rdOf ByteArray.empty l (k : Int) = l[k]'h := by
 unfold rdOf; simp [h]
/-- Where the first word of which a test holds lies, or -1. -/
def IdxPost (p : ByteArray → Bool) (l : List ByteArray) (w : World) (e : Ending) (w' : World) : Prop :=
 (∃ k : Nat, ∃ h : k < l.length, e = .returned (.int .i64 k) ∧ p (l[k]'h) = true ∧ (∀ j (hj : j < l.length), j < k → p (l[j]'hj) = false) ∧ Below w.heap.size w w') ∨ (e = .returned (.int .i64 (-1)) ∧ (∀ j (hj : j < l.length), p (l[j]'hj) = false) ∧ Below w.heap.size w w')
theorem upto_step {p : ByteArray → Bool} {l : List ByteArray} {k : Nat} (h : ∀ j (hj : j < l.length), j < k → p (l[j]'hj) = false) (hk : k < l.length) (hp : p (l[k]'hk) = false) : ∀ j (hj : j < l.length), j < k + 1 → p (l[j]'hj) = false := by
 intro j hj hjk; by_cases e : j = k
 ·subst e; exact hp
 ·exact h j hj (by omega)
set_option maxHeartbeats 2000000 in
set_option maxRecDepth 100000 in
theorem index_in (a0 a1 a2 a3 a4 : Int) (A : Option Addr) (c : Nat) (l : List ByteArray) (w : World) (hr : Kd.C Kd.string w A l.length l) (hl : l.length ≤ 1000000000) (hc : okCode a0 a1 a2 a3 a4) :
  Calls Tryz.prog 73 #[.slice A l.length c, .func (.func 48) #[.agg #[.int .i64 a0, .int .i64 a1, .int .i64 a2, .int .i64 a3, .int .i64 a4]] #[]] w (IdxPost (inB a0 a1 a2 a3 a4) l w) := by
 have HR := Lib.hid hr; clear hr; have HC := Lib.hid hc; clear hc; go_enter Tryz.func73, Tryz.ntmps73
 go_wp2
 go_loopw [8] (fun i wr => ∃ k : Nat, k ≤ l.length ∧ i = .int .i64 k ∧ Hid (∀ j (hj : j < l.length), j < k → inB a0 a1 a2 a3 a4 (l[j]'hj) = false) ∧ Below w.heap.size w wr) (fun i _ => l.length - (Go.RowKit.intOf i).toNat)
 case atStart => exact ⟨0, Nat.zero_le _, rfl, Lib.hid (fun j hj h => absurd h (by omega)), Below.refl _ _⟩
 case round =>
  obtain ⟨k, hk, rfl, HF, hb⟩ := hrel; by_cases hlt : k < l.length
  ·obtain ⟨ad, e2, hx⟩ := Kd.at_string (Kd.C_below HR.out hb) (k : Int) (by omega) (by omega); cases e2; rw [rd_nat8 l k hlt, Int.toNat_natCast] at hx; obtain ⟨x, hxx⟩ : ∃ x, l[k]'hlt = x := ⟨_, rfl⟩; rw [hxx] at hx; have HX := Lib.hid hxx; clear hxx; have hdec : decide ((k : Int) < (l.length : Int)) = true := by simp; omega
   go_wp2_with fail
   refine (in_calls a0 a1 a2 a3 a4 x _ HC.out).mono ?_; rintro e w1 ⟨rfl, hbw⟩; have hb3 : Below w.heap.size w w1 := hb.trans (hbw.mono hb.size); clear hb hbw hx; obtain ⟨b, hbb⟩ : ∃ b, inB a0 a1 a2 a3 a4 x = b := ⟨_, rfl⟩; rw [hbb]; have HBB := Lib.hid hbb; clear hbb; cases b
   ·go_wp2
    go_roundw
    case rel => exact ⟨k + 1, by omega, by go_num, Lib.hid (upto_step HF.out hlt (by rw [HX.out]; exact HBB.out)), hb3⟩
    case measure => simp [Go.RowKit.intOf]; omega
   ·go_wp2
    go_ret; exact .inl ⟨k, hlt, rfl, by rw [HX.out]; exact HBB.out, HF.out, hb3⟩
  ·obtain rfl : k = l.length := by omega
   go_wp2
   go_ret; exact .inr ⟨rfl, fun j hj => HF.out j hj hj, hb⟩
def mark_code_only.f (a0_0 a0_1 a0_2 a0_3 a0_4 : Int) (l1 : List ByteArray) : Option (ByteArray × Int) :=
 if l1.length ≤ 1000000000 ∧ okCode a0_0 a0_1 a0_2 a0_3 a0_4 then
  some (match l1.find? (inB a0_0 a0_1 a0_2 a0_3 a0_4) with | some x => (x, 0) | none => (⟨#[]⟩, 5))
 else none
theorem find_none {p : ByteArray → Bool} {l : List ByteArray} (h : ∀ j (hj : j < l.length), p (l[j]'hj) = false) : l.find? p = none := by
 rw [List.find?_eq_none]; intro x hx; obtain ⟨j, hj, rfl⟩ := List.getElem_of_mem hx; simp [h j hj]
theorem find_some {p : ByteArray → Bool} {l : List ByteArray} {k : Nat} (hk : k < l.length) (hp : p (l[k]'hk) = true) (h : ∀ j (hj : j < l.length), j < k → p (l[j]'hj) = false) : l.find? p = some (l[k]'hk) := by
 rw [List.find?_eq_some_iff_getElem]; exact ⟨hp, k, hk, rfl, fun j hj => by simp [h j (by omega) hj]⟩
set_option maxHeartbeats 2000000 in
set_option maxRecDepth 100000 in
theorem mark_code_only.calls (a0_0 a0_1 a0_2 a0_3 a0_4 : Int) (A1 : Option Addr) (c1 : Nat) (l1 : List ByteArray) (r1 : ByteArray) (r2 : Int) (w : World) (hr1 : Kd.C Kd.string w A1 l1.length l1) (hc1 : l1.length ≤ c1) (h : mark_code_only.f a0_0 a0_1 a0_2 a0_3 a0_4 l1 = some (r1, r2)) :
  Calls Tryz.prog 50 #[.agg #[.int .i64 a0_0, .int .i64 a0_1, .int .i64 a0_2, .int .i64 a0_3, .int .i64 a0_4], .slice A1 l1.length c1] w fun e w' => e = .returned (.tuple #[.string r1, .int .i64 r2]) ∧ Below w.heap.size w w' := by
 unfold mark_code_only.f at h; split at h
 case isFalse => cases h
 case isTrue hln =>
 obtain ⟨hln, hok⟩ := hln; have HH := Lib.hid (Option.some.inj h); clear h; have HR := Lib.hid hr1; clear hr1; have HOK := Lib.hid hok; clear hok; have hb0 : Below w.heap.size w (w.alloc (.cells #[.int .i64 a0_0, .int .i64 a0_1, .int .i64 a0_2, .int .i64 a0_3, .int .i64 a0_4] 61)) := (Below.refl _ _).alloc (Nat.le_refl _) _; have HB0 := Lib.hid hb0; clear hb0; go_enter Tryz.func50, Tryz.ntmps50
 go_wp2_with fail
 refine (index_in a0_0 a0_1 a0_2 a0_3 a0_4 A1 c1 l1 _ (Kd.C_below HR.out HB0.out) hln HOK.out).mono ?_; rintro e w1 (⟨k, hk, rfl, hp, hpre, hbw⟩ | ⟨rfl, hall, hbw⟩)
 ·have hb1 : Below w.heap.size w w1 := HB0.out.trans (hbw.mono HB0.out.size); have HF := Lib.hid (find_some hk hp hpre); clear hbw hp hpre; obtain ⟨ad, e2, hx⟩ := Kd.at_string (Kd.C_below HR.out hb1) (k : Int) (by omega) (by omega); cases e2; rw [rd_nat8 l1 k hk, Int.toNat_natCast] at hx; have HF2 : Hid ((l1[k]'hk, (0 : Int)) = (r1, r2)) := Lib.hid (by have := HH.out; rw [HF.out] at this; exact this); clear HF HH; obtain ⟨x, hxx⟩ : ∃ x, l1[k]'hk = x := ⟨_, rfl⟩; rw [hxx] at hx HF2; clear hxx
  go_wp2
  go_ret2; have h2 := HF2.out; cases h2; exact ⟨rfl, hb1⟩
 ·have hb1 : Below w.heap.size w w1 := HB0.out.trans (hbw.mono HB0.out.size); have HF := Lib.hid (find_none hall); clear hbw hall
  go_wp2
  go_ret2; have h2 := HH.out; rw [HF.out] at h2; cases h2; exact ⟨rfl, hb1⟩
end Go.Proofs.YtopmcoohdhlnaaaGreatDoor.G
namespace Go.Proofs.YtopmcoohdhlnaaaGreatDoor.G
open Go.RowKit Go.Lib Go.Proofs.YtopmcoohdhlnaaaGreatDoorW.PrintWords Go.Proofs.YtopmcoohdhlnaaaGreatDoorW.PrintLast Go.Proofs.YtopmcoohdhlnaaaGreatDoorW.PrintMore
set_option linter.unusedVariables false
/-- The block in which a code lies. -/
def IsBox (w : World) (g : Nat) (a0 a1 a2 a3 a4 : Int) : Prop := w.heap[g]? = some (.cells #[.int .i64 a0, .int .i64 a1, .int .i64 a2, .int .i64 a3, .int .i64 a4] 61 (0, 0))
theorem IsBox.below {w w1 : World} {g : Nat} {a0 a1 a2 a3 a4 : Int} (h : IsBox w g a0 a1 a2 a3 a4) (hb : Below w.heap.size w w1) : IsBox w1 g a0 a1 a2 a3 a4 := (hb.block g (Array.getElem?_eq_some_iff.1 h).1).trans h
theorem not_calls (g : Nat) (a0 a1 a2 a3 a4 : Int) (x : ByteArray) (w : World) (hbx : IsBox w g a0 a1 a2 a3 a4) (h : okCode a0 a1 a2 a3 a4) :
  Calls Tryz.prog 47 #[.string x, .pointer (some ⟨g, 0, none⟩)] w fun e w' => e = .returned (.bool (!inB a0 a1 a2 a3 a4 x)) ∧ Below w.heap.size w w' := by
 have c0 : w.cell? ⟨g, 0, none⟩ = some (.int .i64 a0) := (blk_cell hbx 0).trans rfl; have c1 : w.cell? ⟨g, 1, none⟩ = some (.int .i64 a1) := (blk_cell hbx 1).trans rfl; have c2 : w.cell? ⟨g, 2, none⟩ = some (.int .i64 a2) := (blk_cell hbx 2).trans rfl; have c3 : w.cell? ⟨g, 3, none⟩ = some (.int .i64 a3) := (blk_cell hbx 3).trans rfl; have c4 : w.cell? ⟨g, 4, none⟩ = some (.int .i64 a4) := (blk_cell hbx 4).trans rfl; have hu68 := Tryz.underlying61; have HC := Lib.hid h; clear h hbx; go_enter Tryz.func47, Tryz.ntmps47
 go_wp2_with fail
 refine (in_calls a0 a1 a2 a3 a4 x _ HC.out).mono ?_; rintro e w1 ⟨rfl, hbw⟩; obtain ⟨b, hbb⟩ : ∃ b, inB a0 a1 a2 a3 a4 x = b := ⟨_, rfl⟩; rw [hbb]; have HBB := Lib.hid hbb; clear c0 c1 c2 c3 c4 hbb
 go_wp2
 go_ret; exact ⟨by rw [HBB.out]; rfl, hbw⟩
set_option maxHeartbeats 2000000 in
set_option maxRecDepth 100000 in
theorem index_not (g : Nat) (a0 a1 a2 a3 a4 : Int) (A : Option Addr) (c : Nat) (l : List ByteArray) (w : World) (hr : Kd.C Kd.string w A l.length l) (hl : l.length ≤ 1000000000) (hbx : IsBox w g a0 a1 a2 a3 a4) (hc : okCode a0 a1 a2 a3 a4) :
  Calls Tryz.prog 73 #[.slice A l.length c, .func (.func 47) #[] #[.pointer (some ⟨g, 0, none⟩)]] w (IdxPost (fun x => !inB a0 a1 a2 a3 a4 x) l w) := by
 have HR := Lib.hid hr; clear hr; have HC := Lib.hid hc; clear hc; have HX0 := Lib.hid hbx; clear hbx; go_enter Tryz.func73, Tryz.ntmps73
 go_wp2
 go_loopw [8] (fun i wr => ∃ k : Nat, k ≤ l.length ∧ i = .int .i64 k ∧ Hid (∀ j (hj : j < l.length), j < k → (fun x => !inB a0 a1 a2 a3 a4 x) (l[j]'hj) = false) ∧ Below w.heap.size w wr) (fun i _ => l.length - (Go.RowKit.intOf i).toNat)
 case atStart => exact ⟨0, Nat.zero_le _, rfl, Lib.hid (fun j hj h => absurd h (by omega)), Below.refl _ _⟩
 case round =>
  obtain ⟨k, hk, rfl, HF, hb⟩ := hrel; by_cases hlt : k < l.length
  ·obtain ⟨ad, e2, hx⟩ := Kd.at_string (Kd.C_below HR.out hb) (k : Int) (by omega) (by omega); cases e2; rw [rd_nat8 l k hlt, Int.toNat_natCast] at hx; obtain ⟨x, hxx⟩ : ∃ x, l[k]'hlt = x := ⟨_, rfl⟩; rw [hxx] at hx; have HX := Lib.hid hxx; clear hxx; have hdec : decide ((k : Int) < (l.length : Int)) = true := by simp; omega
   go_wp2_with fail
   refine (not_calls g a0 a1 a2 a3 a4 x _ (HX0.out.below hb) HC.out).mono ?_; rintro e w1 ⟨rfl, hbw⟩; have hb3 : Below w.heap.size w w1 := hb.trans (hbw.mono hb.size); clear hb hbw hx; obtain ⟨b, hbb⟩ : ∃ b, (!inB a0 a1 a2 a3 a4 x) = b := ⟨_, rfl⟩; rw [hbb]; have HBB := Lib.hid hbb; clear hbb; cases b
   ·go_wp2
    go_roundw
    case rel => exact ⟨k + 1, by omega, by go_num, Lib.hid (upto_step (p := fun x => !inB a0 a1 a2 a3 a4 x) HF.out hlt (by rw [HX.out]; exact HBB.out)), hb3⟩
    case measure => simp [Go.RowKit.intOf]; omega
   ·go_wp2
    go_ret; exact .inl ⟨k, hlt, rfl, by rw [HX.out]; exact HBB.out, HF.out, hb3⟩
  ·obtain rfl : k = l.length := by omega
   go_wp2
   go_ret; exact .inr ⟨rfl, fun j hj => HF.out j hj hj, hb⟩
abbrev Row (w : World) (B g n cap : Nat) (xs : List ByteArray) : Prop := Kd.R Kd.string 9 w B (fun _ => True) (.slice (some ⟨g, 0, none⟩) n cap) xs
theorem Row.len {w : World} {B g n cap : Nat} {xs : List ByteArray} (h : Row w B g n cap xs) : xs.length = n := by
 rcases (Kd.own_of_R h).2 with ⟨h0, _⟩ | ⟨_, _, _, hv, _⟩
 ·cases h0
 ·cases hv; rfl
theorem Row.base {w : World} {B g n cap : Nat} {xs : List ByteArray} (h : Row w B g n cap xs) : B ≤ g := Kd.R_base h g rfl
theorem Row.put {w : World} {B g n cap : Nat} {xs : List ByteArray} (h : Row w B g n cap xs) (i : Nat) (x : ByteArray) : Row (w.setCell ⟨g, i, none⟩ (.string x)) B g n cap (xs.set i x) ∧ w.grownBy (w.setCell ⟨g, i, none⟩ (.string x)) (some g) := by
 have hl := h.len; subst hl; have := Kd.R_put (enc := Value.string) (h1 := fun _ => rfl) h (i : Int) x; rw [Int.toNat_natCast] at this; exact this
theorem Row.cell {w : World} {B g n cap : Nat} {xs : List ByteArray} (h : Row w B g n cap xs) (i : Nat) (hi : i < n) : w.cell? ⟨g, i, none⟩ = some (.string (xs.getD i ByteArray.empty)) ∧ w.frozen? ⟨g, i, none⟩ = false := by
 have hl := h.len; subst hl; have := Kd.R_cell (enc := Value.string) (h1 := fun _ => rfl) ByteArray.empty h (i : Int) (by omega) (by omega); unfold rdOf at this; rw [Int.toNat_natCast] at this; exact this
theorem Row.below {w w1 : World} {B g n cap : Nat} {xs : List ByteArray} (h : Row w B g n cap xs) (hb : Below w.heap.size w w1) : Row w1 B g n cap xs := Kd.R_below h hb
theorem Row.prefix_ {w : World} {B g n cap : Nat} {xs : List ByteArray} (h : Row w B g n cap xs) (i : Nat) (hi : i ≤ n) : Row w B g i cap (xs.take i) := by
 have hl := h.len; subst hl; have ho := Kd.own_of_R h; refine Kd.R_of_own ?_ (fun _ _ => trivial); (have hti : (xs.take i).length = i := by rw [List.length_take]; omega); rw [hti]; rcases ho.2 with ⟨h0, _⟩ | ⟨g', cap', cur, hv, hb, hh, h1, h2, h3, h4⟩
 ·cases h0
 ·cases hv; refine ⟨by simp [encs]; omega, .inr ⟨g, cap, cur, rfl, hb, hh, by omega, h2, h3, ?_⟩⟩
  have : (cur.toList.take (xs.length * 1)).take (i * 1) = (encs Value.string xs).take (i * 1) := by rw [h4]
  rw [List.take_take, Nat.min_eq_left (by omega)] at this; rw [this]; simp [encs, List.map_take]
theorem Row.wipe {B g n cap : Nat} : ∀ (m o : Nat) (w : World) (xs : List ByteArray), Row w B g n cap xs → (∃ ys, Row (w.setCells g o (List.replicate m (.string ⟨#[]⟩))) B g n cap ys ∧ ys.take o = xs.take o) ∧ w.grownBy (w.setCells g o (List.replicate m (.string ⟨#[]⟩))) (some g)
 | 0, o, w, xs, h => ⟨⟨xs, h, rfl⟩, ⟨rfl, rfl, rfl, Nat.le_refl _, fun _ _ _ => rfl⟩⟩
 | m + 1, o, w, xs, h => by
  obtain ⟨h1, h2⟩ := h.put o ⟨#[]⟩; obtain ⟨⟨ys, hy, ht⟩, hg⟩ := Row.wipe m (o + 1) _ _ h1; refine ⟨⟨ys, hy, ?_⟩, ?_⟩
  ·have : (ys.take (o + 1)).take o = ((xs.set o ⟨#[]⟩).take (o + 1)).take o := by rw [ht]
   rw [List.take_take, List.take_take, Nat.min_eq_left (by omega)] at this; rw [this]; exact List.take_set_of_le (Nat.le_refl _)
  ·exact ⟨hg.os.trans h2.os, hg.tape.trans h2.tape, hg.output.trans h2.output, Nat.le_trans h2.size hg.size, fun k hk hne => (hg.block k (Nat.lt_of_lt_of_le hk h2.size) hne).trans (h2.block k hk hne)⟩
end Go.Proofs.YtopmcoohdhlnaaaGreatDoor.G
/- slices.DeleteFunc at the closure of the program's words, over a row of the call's own: what is left are the words of the code. -/
namespace Go.Proofs.YtopmcoohdhlnaaaGreatDoor.G
open Go.RowKit Go.Lib Go.Proofs.YtopmcoohdhlnaaaGreatDoorW.PrintWords Go.Proofs.YtopmcoohdhlnaaaGreatDoorW.PrintLast Go.Proofs.YtopmcoohdhlnaaaGreatDoorW.PrintMore
set_option linter.unusedVariables false
theorem IsBox.grown {w w1 : World} {gb gr : Nat} {a0 a1 a2 a3 a4 : Int} (h : IsBox w gb a0 a1 a2 a3 a4) (hg : w.grownBy w1 (some gr)) (hne : gb ≠ gr) : IsBox w1 gb a0 a1 a2 a3 a4 :=
 (hg.block gb (Array.getElem?_eq_some_iff.1 h).1 (fun e => hne (Option.some.inj e))).trans h
theorem box_ne {w : World} {gb B gr n cap : Nat} {xs : List ByteArray} {a0 a1 a2 a3 a4 : Int} (h : IsBox w gb a0 a1 a2 a3 a4) (hr : Row w B gr n cap xs) : gb ≠ gr := by
 rintro rfl; obtain ⟨cells, hc⟩ := own_typed (Kd.own_of_R hr) gb rfl; unfold IsBox at h; rw [h] at hc; injection hc with hc; injection hc with _ hc; exact absurd hc (by decide)
/-- How far the row has been rewritten. -/
def Rewr (p : ByteArray → Bool) (l dk : List ByteArray) (i j : Nat) : Prop := dk.take i = (l.take j).filter p ∧ dk.drop j = l.drop j ∧ dk.length = l.length ∧ i < j
theorem Rewr.start {p : ByteArray → Bool} {l : List ByteArray} {k : Nat} (hk : k < l.length) (hp : p (l[k]'hk) = false) (h : ∀ j (hj : j < l.length), j < k → p (l[j]'hj) = true) : Rewr p l l k (k + 1) := by
 refine ⟨?_, rfl, rfl, by omega⟩; rw [List.take_succ_eq_append_getElem hk, List.filter_append]
 have : (l.take k).filter p = l.take k := by
  rw [List.filter_eq_self]; intro x hx; obtain ⟨j, hj, rfl⟩ := List.getElem_of_mem hx; rw [List.getElem_take]; exact h j (by rw [List.length_take] at hj; omega) (by rw [List.length_take] at hj; omega)
 rw [this]; simp [hp]
theorem Rewr.keep {p : ByteArray → Bool} {l dk : List ByteArray} {i j : Nat} (h : Rewr p l dk i j) (hj : j < l.length) (hp : p (l[j]'hj) = true) : Rewr p l (dk.set i (l[j]'hj)) (i + 1) (j + 1) := by
 obtain ⟨h1, h2, h3, h4⟩ := h; refine ⟨?_, ?_, by simp [h3], by omega⟩
 ·rw [List.take_succ_eq_append_getElem (by simp; omega), List.take_set_of_le (Nat.le_refl _), h1, List.take_succ_eq_append_getElem hj, List.filter_append]; simp [hp]
 ·rw [List.drop_set_of_lt (by omega)]; have := congrArg List.tail h2; rw [List.tail_drop, List.tail_drop] at this; exact this
theorem Rewr.skip {p : ByteArray → Bool} {l dk : List ByteArray} {i j : Nat} (h : Rewr p l dk i j) (hj : j < l.length) (hp : p (l[j]'hj) = false) : Rewr p l dk i (j + 1) := by
 obtain ⟨h1, h2, h3, h4⟩ := h; refine ⟨?_, ?_, h3, by omega⟩
 ·rw [h1, List.take_succ_eq_append_getElem hj, List.filter_append]; simp [hp]
 ·have := congrArg List.tail h2; rw [List.tail_drop, List.tail_drop] at this; exact this
theorem Rewr.at_ {p : ByteArray → Bool} {l dk : List ByteArray} {i j : Nat} (h : Rewr p l dk i j) (hj : j < l.length) : dk.getD j ByteArray.empty = l[j]'hj := by
 obtain ⟨h1, h2, h3, h4⟩ := h; have := congrArg (fun l => l[0]?) h2; simp only [List.getElem?_drop, Nat.add_zero] at this; rw [List.getD_eq_getElem?_getD, this, List.getElem?_eq_getElem hj]; rfl
theorem Rewr.done {p : ByteArray → Bool} {l dk : List ByteArray} {i : Nat} (h : Rewr p l dk i l.length) : dk.take i = l.filter p := by
 rw [h.1, List.take_of_length_le (Nat.le_refl _)]
theorem filter_all {p : ByteArray → Bool} {l : List ByteArray} (h : ∀ j (hj : j < l.length), (fun x => !p x) (l[j]'hj) = false) : l.filter p = l := by
 rw [List.filter_eq_self]; intro x hx; obtain ⟨j, hj, rfl⟩ := List.getElem_of_mem hx; simpa using h j hj
def DelPost (p : ByteArray → Bool) (l : List ByteArray) (B : Nat) (w : World) (e : Ending) (w' : World) : Prop := ∃ v', e = .returned v' ∧ Kd.R Kd.string 9 w' B (fun _ => True) v' (l.filter p) ∧ Below B w w'
set_option maxHeartbeats 4000000 in
set_option maxRecDepth 100000 in
theorem delete_calls (gb : Nat) (a0 a1 a2 a3 a4 : Int) (B gr cap : Nat) (l : List ByteArray) (w : World) (hr : Row w B gr l.length cap l) (hl : l.length ≤ 1000000000) (hB : B ≤ w.heap.size) (hbx : IsBox w gb a0 a1 a2 a3 a4) (hc : okCode a0 a1 a2 a3 a4) :
  Calls Tryz.prog 46 #[.slice (some ⟨gr, 0, none⟩) l.length cap, .func (.func 47) #[] #[.pointer (some ⟨gb, 0, none⟩)]] w (DelPost (inB a0 a1 a2 a3 a4) l B w) := by
 have hne := box_ne hbx hr
 have hcap : l.length ≤ cap ∧ cap ≤ maxLen := by
  rcases (Kd.own_of_R hr).2 with ⟨h0, _⟩ | ⟨_, _, _, hv, _, _, h1, h2, _⟩
  ·cases h0
  ·cases hv; exact ⟨h1, h2⟩
 obtain ⟨hcap1, hcap2⟩ := hcap; unfold maxLen at hcap2; have HR := Lib.hid hr; clear hr; have HC := Lib.hid hc; clear hc; have HX := Lib.hid hbx; clear hbx; have hu40 := Tryz.underlying26; go_enter Tryz.func46, Tryz.ntmps46
 go_wp2_with fail
 refine (index_not gb a0 a1 a2 a3 a4 _ cap l _ (Kd.R_reads' HR.out).2.2 hl HX.out HC.out).mono ?_; rintro e w1 (⟨k, hk, rfl, hp, hpre, hbw⟩ | ⟨rfl, hall, hbw⟩)
 ·have hb1 : Below B w w1 := hbw.mono hB; have HR1 := Lib.hid (HR.out.below hbw); have HX1 := Lib.hid (HX.out.below hbw); have HW := Lib.hid (Rewr.start (p := inB a0 a1 a2 a3 a4) hk (by simpa using hp) (fun j hj h => by simpa using hpre j hj h)); clear hbw hp hpre HR HX; have hkm : ((k : Int) == -1) = false := beq_eq_false_iff_ne.2 (by omega)
  go_wp2
  go_loopw [5, 6] (fun s5 s6 wr => ∃ (i j : Nat) (dk : List ByteArray), s5 = .int .i64 i ∧ s6 = .int .i64 j ∧ j ≤ l.length ∧ Hid (Rewr (inB a0 a1 a2 a3 a4) l dk i j) ∧ Hid (Row wr B gr l.length cap dk) ∧ Hid (IsBox wr gb a0 a1 a2 a3 a4) ∧ Below B w wr) (fun _ s6 _ => l.length - (Go.RowKit.intOf s6).toNat)
  case atStart => exact ⟨k, k + 1, l, rfl, by go_num, by omega, HW, HR1, HX1, hb1⟩
  case round =>
   obtain ⟨i, j, dk, rfl, rfl, hj, HW, HRr, HXr, hb⟩ := hrel; clear HR1 HX1 hb1; have hij := HW.out.2.2.2; have hsz := hb.size; by_cases hlt : j < l.length
   ·obtain ⟨cj, fj⟩ := HRr.out.cell j hlt; rw [HW.out.at_ hlt] at cj; obtain ⟨x, hxx⟩ : ∃ x, l[j]'hlt = x := ⟨_, rfl⟩; rw [hxx] at cj; have HXX := Lib.hid hxx; clear hxx; have hdec : decide ((j : Int) < (l.length : Int)) = true := by simp; omega
    go_wp2_with fail
    refine (not_calls gb a0 a1 a2 a3 a4 x _ HXr.out HC.out).mono ?_; rintro e w2 ⟨rfl, hbw⟩; have hb2 : Below B w w2 := hb.trans (hbw.mono (by omega)); have HR2 := Lib.hid (HRr.out.below hbw); have HX2 := Lib.hid (HXr.out.below hbw); clear hb hbw cj fj HRr HXr; obtain ⟨b, hbb⟩ : ∃ b, inB a0 a1 a2 a3 a4 x = b := ⟨_, rfl⟩; rw [hbb]; have HBB := Lib.hid hbb; clear hbb; cases b
    ·have HW2 := Lib.hid (HW.out.skip hlt (by rw [HXX.out]; exact HBB.out))
     go_wp2
     go_roundw
     case rel => exact ⟨i, j + 1, dk, rfl, by go_num, by omega, HW2, HR2, HX2, hb2⟩
     case measure => simp [Go.RowKit.intOf]; omega
    ·have HW2 : Hid (Rewr (inB a0 a1 a2 a3 a4) l (dk.set i x) (i + 1) (j + 1)) := Lib.hid (by have := HW.out.keep hlt (by rw [HXX.out]; exact HBB.out); rwa [HXX.out] at this); obtain ⟨ci, fi⟩ := HR2.out.cell i (by omega); have HP := Lib.hid (HR2.out.put i x); have hil : i < l.length := by omega
     go_wp2
     go_roundw
     case rel => exact ⟨i + 1, j + 1, dk.set i x, by go_num, by go_num, by omega, HW2, Lib.hid HP.out.1, Lib.hid (HX2.out.grown HP.out.2 hne), hb2.grown HP.out.2 (by have := hb2.size; omega) (fun q hq => by cases hq; exact HR2.out.base)⟩
     case measure => simp [Go.RowKit.intOf]; omega
   ·obtain rfl : j = l.length := by omega
    have hclr := fun ty => Lib.run_clear_slice (P := Tryz.prog) wr 26 9 ty (.string ⟨#[]⟩) Tryz.underlying26 Tryz.zeroValue9 rfl rfl gr i (l.length - i) (cap - i) (by omega)
     (fun t ht => by rw [(HRr.out.cell (i + t) (by omega)).1]; rfl) (fun t ht => (HRr.out.cell (i + t) (by omega)).2)
    have HCL := Lib.hid hclr; have hil : i < l.length := by omega
    go_wp2
    go_ret; obtain ⟨⟨ys, hy, ht⟩, hg⟩ := Row.wipe (l.length - i) i wr dk HRr.out; have hfin := hy.prefix_ i (by omega); rw [ht, HW.out.done] at hfin; exact ⟨_, rfl, hfin, hb.grown hg (by omega) (fun q hq => by cases hq; exact HRr.out.base)⟩
 ·have hb1 : Below B w w1 := hbw.mono hB; have HR1 := Lib.hid (HR.out.below hbw); have HF := Lib.hid (filter_all (p := inB a0 a1 a2 a3 a4) hall); clear hbw hall HR HX
  go_wp2
  go_ret; exact ⟨_, rfl, by rw [HF.out]; exact HR1.out, hb1⟩
end Go.Proofs.YtopmcoohdhlnaaaGreatDoor.G
namespace Go.Proofs.YtopmcoohdhlnaaaGreatDoor.Pa
open Go.RowKit Go.Proofs.YtopmcoohdhlnaaaGreatDoorW.PrintWords Go.Proofs.YtopmcoohdhlnaaaGreatDoorW.PrintLast Go.Proofs.YtopmcoohdhlnaaaGreatDoorW.PrintMore
attribute [local go_sem] max2_int min2_int max_two min_two max_three min_three max_four min_four   -- for this text's walks alone
set_option linter.unusedVariables false
set_option linter.unusedSimpArgs false
def mark_code_alphabet.f (a0_0 : Int) (a0_1 : Int) (a0_2 : Int) (a0_3 : Int) (a0_4 : Int) : Option (ByteArray) := if a0_0 = 0 then (some (⟨#[48, 49]⟩ : ByteArray)) else (if 0 ≤ a0_2 then (if a0_2 ≤ 4 then (some ((⟨#[48, 49, 50, 51]⟩ : ByteArray).extract 0 (a0_2 : Int).toNat)) else (none)) else (none))
set_option maxHeartbeats 8000000 in
set_option maxRecDepth 100000 in
theorem mark_code_alphabet.calls (a0_0 : Int) (a0_1 : Int) (a0_2 : Int) (a0_3 : Int) (a0_4 : Int) (r : ByteArray) (w : World) (h : mark_code_alphabet.f a0_0 a0_1 a0_2 a0_3 a0_4 = some r) :
  Calls Tryz.prog 44 #[.agg #[.int .i64 a0_0, .int .i64 a0_1, .int .i64 a0_2, .int .i64 a0_3, .int .i64 a0_4]] w fun e w' => e = .returned (.string r) ∧ Below w.heap.size w w' := by
 have hu68 := Tryz.underlying61; have HB := aM (Below.refl w.heap.size w); have H : (if a0_0 = 0 then (some (⟨#[48, 49]⟩ : ByteArray)) else (if 0 ≤ a0_2 then (if a0_2 ≤ 4 then (some ((⟨#[48, 49, 50, 51]⟩ : ByteArray).extract 0 (a0_2 : Int).toNat)) else (none)) else (none))) = some r := h; clear h; by_cases c2 : a0_0 = 0
 ·rw [if_pos c2] at H; have c2b0 : (a0_0 == 0) = true := beq_iff_eq.mpr c2; have c2b1 : (a0_0 != 0) = false := bne_eq_false_iff_eq.mpr c2; clear c2; obtain rfl := Option.some.inj H; go_enter Tryz.func44, Tryz.ntmps44
  go_wp2_with (first | ((with_reducible refine gate_dst (N := 1) rfl ?_); refine box_event ?hg (N := 1) ?hd (cs := #[.int .i64 a0_0, .int .i64 a0_1, .int .i64 a0_2, .int .i64 a0_3, .int .i64 a0_4]) (t := 61) ?hr ?_; (case hd => rfl); (case hg => rfl); (case hr => first | (go_simp; done) | (go_simp; rfl)); intro gb248 hg w3 hbox hb; have BK248 := aM (hbox); have GW248 := aM ((by rw [hg]; exact (below_size bB) : w.heap.size ≤ gb248)); have GE248 := aM ((by rw [hg]; exact (below_size bB) : w.heap.size ≤ gb248)); replace HB := aM (below_step bB hb); clear hb hbox hg; have hcz4_0 : w3.cell? ⟨gb248, 0, none⟩ = some (.int .i64 a0_0) := (blk_cell BK248.out 0).trans rfl; have hcz4_1 : w3.cell? ⟨gb248, 1, none⟩ = some (.int .i64 a0_1) := (blk_cell BK248.out 1).trans rfl; have hcz4_2 : w3.cell? ⟨gb248, 2, none⟩ = some (.int .i64 a0_2) := (blk_cell BK248.out 2).trans rfl; have hcz4_3 : w3.cell? ⟨gb248, 3, none⟩ = some (.int .i64 a0_3) := (blk_cell BK248.out 3).trans rfl; have hcz4_4 : w3.cell? ⟨gb248, 4, none⟩ = some (.int .i64 a0_4) := (blk_cell BK248.out 4).trans rfl; have hfz4_0 := blk_frozen BK248.out 0; have hfz4_1 := blk_frozen BK248.out 1; have hfz4_2 := blk_frozen BK248.out 2; have hfz4_3 := blk_frozen BK248.out 3; have hfz4_4 := blk_frozen BK248.out 4))
  go_ret; exact ⟨tE, bB⟩
 ·rw [if_neg c2] at H; have c2b0 : (a0_0 == 0) = false := beq_eq_false_iff_ne.mpr c2; have c2b1 : (a0_0 != 0) = true := bne_iff_ne.mpr c2; by_cases c5 : 0 ≤ a0_2
  ·rw [if_pos c5] at H; have c5b0 := eq_true c5; have c5b1 := decide_eq_true c5; clear c5; by_cases c6 : a0_2 ≤ 4
   ·rw [if_pos c6] at H; have c6b0 := eq_true c6; have c6b1 := decide_eq_true c6; clear c6; obtain rfl := Option.some.inj H; go_enter Tryz.func44, Tryz.ntmps44
    go_wp2_with (first | ((with_reducible refine gate_dst (N := 1) rfl ?_); refine box_event ?hg (N := 1) ?hd (cs := #[.int .i64 a0_0, .int .i64 a0_1, .int .i64 a0_2, .int .i64 a0_3, .int .i64 a0_4]) (t := 61) ?hr ?_; (case hd => rfl); (case hg => rfl); (case hr => first | (go_simp; done) | (go_simp; rfl)); intro gb248 hg w7 hbox hb; have BK248 := aM (hbox); have GW248 := aM ((by rw [hg]; exact (below_size bB) : w.heap.size ≤ gb248)); have GE248 := aM ((by rw [hg]; exact (below_size bB) : w.heap.size ≤ gb248)); replace HB := aM (below_step bB hb); clear hb hbox hg; have hcz8_0 : w7.cell? ⟨gb248, 0, none⟩ = some (.int .i64 a0_0) := (blk_cell BK248.out 0).trans rfl; have hcz8_1 : w7.cell? ⟨gb248, 1, none⟩ = some (.int .i64 a0_1) := (blk_cell BK248.out 1).trans rfl; have hcz8_2 : w7.cell? ⟨gb248, 2, none⟩ = some (.int .i64 a0_2) := (blk_cell BK248.out 2).trans rfl; have hcz8_3 : w7.cell? ⟨gb248, 3, none⟩ = some (.int .i64 a0_3) := (blk_cell BK248.out 3).trans rfl; have hcz8_4 : w7.cell? ⟨gb248, 4, none⟩ = some (.int .i64 a0_4) := (blk_cell BK248.out 4).trans rfl; have hfz8_0 := blk_frozen BK248.out 0; have hfz8_1 := blk_frozen BK248.out 1; have hfz8_2 := blk_frozen BK248.out 2; have hfz8_3 := blk_frozen BK248.out 3; have hfz8_4 := blk_frozen BK248.out 4))
    go_ret; exact ⟨tE, bB⟩
   ·rw [if_neg c6] at H; exact absurd H (by simp)
  ·rw [if_neg c5] at H; exact absurd H (by simp)
def mark_better.f (a0 : ByteArray) (a1 : ByteArray) : Option (ByteArray) := if (a1.size : Int) > (a0.size : Int) then (some a1) else (if (a1.size : Int) = (a0.size : Int) then (if (Op.bytesLess a1.toList a0.toList) = true then (some a1) else (some a0)) else (some a0))
set_option maxHeartbeats 8000000 in
set_option maxRecDepth 100000 in
theorem mark_better.calls (a0 : ByteArray) (a1 : ByteArray) (r : ByteArray) (w : World) (h : mark_better.f a0 a1 = some r) :
  Calls Tryz.prog 80 #[.string a0, .string a1] w fun e w' => e = .returned (.string r) ∧ Drawn0 w w' := by
 have H : (if (a1.size : Int) > (a0.size : Int) then (some a1) else (if (a1.size : Int) = (a0.size : Int) then (if (Op.bytesLess a1.toList a0.toList) = true then (some a1) else (some a0)) else (some a0))) = some r := h; clear h; by_cases c3 : (a1.size : Int) > (a0.size : Int)
 ·rw [if_pos c3] at H; have c3b0 : decide ((a0.size : Int) < (a1.size : Int)) = true := decide_eq_true c3; have c3b1 : decide (a0.size < a1.size) = true := decide_eq_true (Int.ofNat_lt.mp c3); clear c3; obtain rfl := Option.some.inj H; go_enter Tryz.func80, Tryz.ntmps80
  go_wp2
  go_ret; exact ⟨tS, by repeat (first | exact Drawn0.refl _ | apply Drawn0.step)⟩
 ·rw [if_neg c3] at H; have c3b0 : decide ((a0.size : Int) < (a1.size : Int)) = false := decide_eq_false c3; have c3b1 : decide (a0.size < a1.size) = false := decide_eq_false (fun h => c3 (Int.ofNat_lt.mpr h)); clear c3; by_cases c4 : (a1.size : Int) = (a0.size : Int)
  ·rw [if_pos c4] at H; have c4b0 : ((a1.size : Int) == (a0.size : Int)) = true := beq_iff_eq.mpr c4; have c4b1 : ((a1.size : Int) != (a0.size : Int)) = false := bne_eq_false_iff_eq.mpr c4; (have c4b2 : (a1.size == a0.size) = true := by first | simpa using c4 | (simp at c4 ⊢; omega)); clear c4; by_cases c5 : (Op.bytesLess a1.toList a0.toList) = true
   ·rw [if_pos c5] at H; have c5b0 : (Op.bytesLess a1.toList a0.toList) = true := c5; clear c5; obtain rfl := Option.some.inj H; go_enter Tryz.func80, Tryz.ntmps80
    go_wp2
    go_ret; exact ⟨tS, by repeat (first | exact Drawn0.refl _ | apply Drawn0.step)⟩
   ·rw [if_neg c5] at H; (have c5b0 : (Op.bytesLess a1.toList a0.toList) = false := by simpa using c5); clear c5; obtain rfl := Option.some.inj H; go_enter Tryz.func80, Tryz.ntmps80
    go_wp2
    go_ret; exact ⟨tS, by repeat (first | exact Drawn0.refl _ | apply Drawn0.step)⟩
  ·rw [if_neg c4] at H; have c4b0 : ((a1.size : Int) == (a0.size : Int)) = false := beq_eq_false_iff_ne.mpr c4; have c4b1 : ((a1.size : Int) != (a0.size : Int)) = true := bne_iff_ne.mpr c4; (have c4b2 : (a1.size == a0.size) = false := by first | simpa using c4 | (simp at c4 ⊢; omega)); obtain rfl := Option.some.inj H; go_enter Tryz.func80, Tryz.ntmps80
   go_wp2
   go_ret; exact ⟨tS, by repeat (first | exact Drawn0.refl _ | apply Drawn0.step)⟩
end Go.Proofs.YtopmcoohdhlnaaaGreatDoor.Pa
namespace Go.Proofs.YtopmcoohdhlnaaaGreatDoor.G
open Go.RowKit Go.Lib Go.Proofs.YtopmcoohdhlnaaaGreatDoorW.PrintWords Go.Proofs.YtopmcoohdhlnaaaGreatDoorW.PrintLast Go.Proofs.YtopmcoohdhlnaaaGreatDoorW.PrintMore
set_option linter.unusedVariables false
set_option linter.unusedSimpArgs false
/-- The words that come of a word by one letter more at the end. -/
def extW (al x : ByteArray) : List ByteArray := al.data.toList.map fun b => catB [x, ⟨#[b]⟩]
def stepW (al : ByteArray) (l : List ByteArray) : List ByteArray := l.flatMap (extW al)
/-- All words of n letters, in byte order. -/
def allW (al : ByteArray) : Nat → List ByteArray
 | 0 => [⟨#[]⟩]
 | n + 1 => stepW al (allW al n)
theorem extW_length (al x : ByteArray) : (extW al x).length = al.size := by simp [extW]
theorem stepW_length (al : ByteArray) (l : List ByteArray) : (stepW al l).length = l.length * al.size := by
 induction l with
 | nil => simp [stepW]
 | cons x r ih =>
  unfold stepW at ih ⊢; rw [List.flatMap_cons, List.length_append, extW_length, ih, List.length_cons, Nat.add_mul, Nat.one_mul, Nat.add_comm]
theorem allW_length (al : ByteArray) (n : Nat) : (allW al n).length = al.size ^ n := by
 induction n with
 | zero => rfl
 | succ n ih => rw [allW, stepW_length, ih, Nat.pow_succ]
theorem catB_snoc_size (x : ByteArray) (b : UInt8) : (catB [x, ⟨#[b]⟩]).size = x.size + 1 := by
 show ((List.map _ _).flatten.toArray).size = _; simp only [List.map_cons, List.map_nil, List.flatten_cons, List.flatten_nil, List.append_nil, List.size_toArray, List.length_append, Array.length_toList]; rfl
theorem allW_size (al : ByteArray) : ∀ (n : Nat) (x : ByteArray), x ∈ allW al n → x.size = n
 | 0, x, h => by
  have : x = ⟨#[]⟩ := by simpa [allW] using h
  subst this; rfl
 | n + 1, x, h => by
  simp only [allW, stepW, List.mem_flatMap] at h; obtain ⟨y, hy, hx⟩ := h; simp only [extW, List.mem_map] at hx; obtain ⟨b, _, rfl⟩ := hx; rw [catB_snoc_size, allW_size al n y hy]
theorem stepW_take_succ (al : ByteArray) (l : List ByteArray) (k : Nat) (h : k < l.length) : stepW al (l.take (k + 1)) = stepW al (l.take k) ++ extW al (l[k]'h) := by
 rw [List.take_succ_eq_append_getElem h]; unfold stepW; rw [List.flatMap_append]; simp
theorem extW_take_succ (al x : ByteArray) (j : Nat) (h : j < al.size) : (extW al x).take (j + 1) = (extW al x).take j ++ [catB [x, ⟨#[al[j]'h]⟩]] := by
 rw [List.take_succ_eq_append_getElem (by rw [extW_length]; exact h)]; congr 1; simp [extW]; rfl
theorem snoc_joined (x : ByteArray) (b : UInt8) (h : x.size ≤ 1000) : mark_joined.f [x, ⟨#[b]⟩] = some (catB [x, ⟨#[b]⟩]) := by
 unfold mark_joined.f; rw [if_pos ⟨by rw [catB_snoc_size]; omega, by simp⟩]
theorem joined_two (A : Option Addr) (c : Nat) (x : ByteArray) (b : UInt8) (w : World) (hr : Kd.C Kd.string w A 2 [x, ⟨#[b]⟩]) (hc : 2 ≤ c) (h : mark_joined.f [x, ⟨#[b]⟩] = some (catB [x, ⟨#[b]⟩])) :
  Calls Tryz.prog 45 #[.slice A 2 c] w fun e w' => e = .returned (.string (catB [x, ⟨#[b]⟩])) ∧ Below w.heap.size w w' := mark_joined.calls A c [x, ⟨#[b]⟩] _ w hr hc h
theorem enc_byte : ∀ c : Fin 128, Utf8.encode ((c.val : Nat) : Int) = ⟨#[UInt8.ofNat c.val]⟩ := by decide +kernel
theorem enc_ascii (b : UInt8) (h : b.toNat < 128) : Utf8.encode (b.toNat : Int) = ⟨#[b]⟩ := by
 have := enc_byte ⟨b.toNat, h⟩; rw [this]; simp
theorem box_grown {w w1 : World} {g B : Nat} {a0 a1 a2 a3 a4 : Int} {ok : Nat → Prop} {v : Value} {xs : List ByteArray} (h : IsBox w g a0 a1 a2 a3 a4) (hr : Kd.R Kd.string 9 w B ok v xs) (hg : w.grownBy w1 v.ownBlock) : IsBox w1 g a0 a1 a2 a3 a4 :=
 blk_grown h hg (Kd.R_ne hr h (by decide))
theorem IsBox.iter {w w1 : World} {g k : Nat} {s : ByteArray} {p : Nat} {a0 a1 a2 a3 a4 : Int} (h : IsBox w g a0 a1 a2 a3 a4) (hk : w.heap[k]? = some (.stringIter s p)) (ho : ∀ j, j ≠ k → w1.heap[j]? = w.heap[j]?) : IsBox w1 g a0 a1 a2 a3 a4 := by
 refine (ho g ?_).trans h; rintro rfl; unfold IsBox at h; rw [hk] at h; cases h
theorem R_iter2 {w w1 : World} {k : Nat} {s : ByteArray} {p e B : Nat} {ok : Nat → Prop} {v : Value} {xs : List ByteArray} (h : w.heap[k]? = some (.stringIter s p)) (hr : Kd.R Kd.string e w B ok v xs) (ho : ∀ j, j ≠ k → w1.heap[j]? = w.heap[j]?) : Kd.R Kd.string e w1 B ok v xs := by
 refine Kd.R_mono (Kd.R_step (Kd.R_bound hr) (fun j hj _ => ho j ?_)) (fun _ hj => hj.1); rintro rfl; obtain ⟨_, _, _, q, _, cells, hc⟩ := hj; rw [h] at hc; cases hc
theorem R_newiter2 {w : World} {s : ByteArray} {e B : Nat} {ok : Nat → Prop} {v : Value} {xs : List ByteArray} (hr : Kd.R Kd.string e w B ok v xs) : Kd.R Kd.string e (w.iter s 0) B ok v xs :=
 Kd.R_below hr ((Below.refl _ _).alloc (Nat.le_refl _) _)
def mark_code_words.f (a0 a1 a2 a3 a4 : Int) : Option (List ByteArray) :=
 if okCode a0 a1 a2 a3 a4 ∧ a1 ≤ 12 then
  (Pa.mark_code_alphabet.f a0 a1 a2 a3 a4).bind fun al => if okSet al = true ∧ 1 ≤ al.size ∧ al.size ≤ 4 then some ((allW al a1.toNat).filter (inB a0 a1 a2 a3 a4)) else none
 else none
set_option maxHeartbeats 8000000 in
set_option maxRecDepth 100000 in
theorem mark_code_words.calls (a0 a1 a2 a3 a4 : Int) (r : List ByteArray) (w : World) (h : mark_code_words.f a0 a1 a2 a3 a4 = some r) :
  Calls Tryz.prog 25 #[.agg #[.int .i64 a0, .int .i64 a1, .int .i64 a2, .int .i64 a3, .int .i64 a4]] w fun e w' => ∃ v0_ : Value, e = .returned (v0_) ∧ Kd.R Kd.string 9 w' w.heap.size (fun _ => True) v0_ r ∧ Below w.heap.size w w' := by
 unfold mark_code_words.f at h; split at h
 case isFalse => cases h
 case isTrue hok =>
 obtain ⟨hok, h12⟩ := hok; obtain ⟨al, hal, h2⟩ := Option.bind_eq_some_iff.1 h; clear h; split at h2
 case isFalse => cases h2
 case isTrue hg =>
 obtain ⟨hs, hs1, hs4⟩ := hg; obtain rfl := Option.some.inj h2; clear h2; obtain ⟨N, rfl⟩ := Int.eq_ofNat_of_zero_le hok.1; (have hN : N ≤ 12 := by omega); have HA := Lib.hid (okSet_ascii hs); have HOK := Lib.hid hok; have HAL := Lib.hid hal; clear hok hal hs h12; have hu68 := Tryz.underlying61; have hu3 := Tryz.underlying3; go_enter Tryz.func25, Tryz.ntmps25
 go_wp2_with (first | ((with_reducible refine gate_dst (N := 1) rfl ?_); refine box_event ?hg (N := 1) ?hd (cs := #[.int .i64 a0, .int .i64 (N : Int), .int .i64 a2, .int .i64 a3, .int .i64 a4]) (t := 61) ?hr ?_; (case hd => rfl); (case hg => rfl); (case hr => first | (go_simp; done) | (go_simp; rfl)); intro gb hgb w3 hbox hb; have HGB := aM hgb; have HBX := aM (show IsBox w3 gb a0 (N : Int) a2 a3 a4 from hbox); have HB := aM hb; clear hgb hbox hb) | ((with_reducible refine gate_dst (N := 9) rfl ?_); refine Kd.R_lit Kd.string _ 9 ?hg (N := 9) ?hd (xs := ([⟨#[]⟩] : List ByteArray)) (inner := [.string ⟨#[]⟩]) (ok := fun _ => True) (okp := fun _ => True) ?hr ?hp (fun _ hk => hk) trivial (Below.refl _ _) (Nat.le_refl _) (by simp) ?_; (case hd => rfl); (case hg => rfl); (case hr => first | (go_simp; done) | (go_simp; rfl)); (case hp => exact (Reps.one (show Kd.M Kd.string _ _ _ (⟨#[]⟩ : ByteArray) [.string ⟨#[]⟩] from rfl) (Reps.none _ _))); intro v9 w4 ho hb hg_ hnew_; clear hg_ hnew_; have n0_ := aM (Kd.R_lower ho (below_size HB.out)); have n1_ := aM (HBX.out.below hb); have n2_ := aM (below_step HB.out hb); clear HB HBX; have HO := n0_; have HBX := n1_; have HB := n2_; clear n0_ n1_ n2_ ho hb; have c1 : w4.cell? ⟨gb, 1, none⟩ = some (.int .i64 (N : Int)) := (blk_cell HBX.out 1).trans rfl))
 go_loopw [3, 12] (fun v i wr => ∃ n : Nat, n ≤ N ∧ i = .int .i64 n ∧ Aside0 (Kd.R Kd.string 9 wr w.heap.size (fun _ => True) v (allW al n)) ∧ Aside0 (IsBox wr gb a0 (N : Int) a2 a3 a4) ∧ Aside0 (Below w.heap.size w wr)) (fun _ i _ => N - (Go.RowKit.intOf i).toNat)
 case atStart => exact ⟨0, Nat.zero_le _, rfl, HO, HBX, HB⟩
 case round =>
  clear HO HBX HB c1; obtain ⟨n, hn, rfl, HO, HBX, HB⟩ := hrel; have LEN0 := aM (show (allW al n).length ≤ 16777216 from by rw [allW_length]; exact Nat.le_trans (Nat.pow_le_pow_left hs4 n) (Nat.le_trans (Nat.pow_le_pow_right (by decide) (by omega : n ≤ 12)) (by decide))); have hlen := LEN0.out; by_cases hlt : n < N
  ·obtain ⟨A, c, eo⟩ := Kd.R_slice HO.out; subst eo; have hdec : decide ((n : Int) < (N : Int)) = true := by simp; omega
   go_wp2
   obtain ⟨wo, rfl⟩ : ∃ wo : World, wo = wr := ⟨_, rfl⟩
   go_loopw [4, 16] (fun v i wr => ∃ k : Nat, k ≤ (allW al n).length ∧ i = .int .i64 k ∧ Aside0 (Kd.R Kd.string 9 wr w.heap.size (fun k_ => some k_ ≠ (v : Value).ownBlock) (.slice A (allW al n).length c) (allW al n)) ∧ Aside0 (Kd.R Kd.string 9 wr w.heap.size (fun k_ => some k_ ≠ (.slice A (allW al n).length c : Value).ownBlock) v (stepW al ((allW al n).take k))) ∧ Aside0 (IsBox wr gb a0 (N : Int) a2 a3 a4) ∧ Aside0 (Below w.heap.size w wr)) (fun _ i _ => (allW al n).length - (Go.RowKit.intOf i).toNat)
   case atStart => exact ⟨0, Nat.zero_le _, rfl, ⟨Kd.R_mono HO.out (fun _ _ => by simp [Value.ownBlock])⟩, ⟨Kd.R_nil _ _ _ _ _⟩, HBX, HB⟩
   case round =>
    clear HO HBX HB; obtain ⟨k, hk, rfl, HO3, HO4, HBX, HB⟩ := hrel; by_cases hkl : k < (allW al n).length
    ·obtain ⟨ad, e2, hx⟩ := Kd.at_string (Kd.R_reads' HO3.out).2.2 (k : Int) (by omega) (by omega); cases e2; rw [rd_nat8 (allW al n) k hkl, Int.toNat_natCast] at hx; have hxs := allW_size al n _ (List.getElem_mem hkl); have HSTEP := aM (stepW_take_succ al (allW al n) k hkl); obtain ⟨x, hxx⟩ : ∃ x, (allW al n)[k]'hkl = x := ⟨_, rfl⟩; rw [hxx] at hx hxs HSTEP; clear hxx; (have hxs2 : x.size ≤ 1000 := by omega); clear hxs; (have hdec2 : decide ((k : Int) < ((allW al n).length : Int)) = true := by simp; omega); have c0 : wr.cell? ⟨gb, 0, none⟩ = some (.int .i64 a0) := (blk_cell HBX.out 0).trans rfl; have c1 : wr.cell? ⟨gb, 1, none⟩ = some (.int .i64 (N : Int)) := (blk_cell HBX.out 1).trans rfl; have c2 : wr.cell? ⟨gb, 2, none⟩ = some (.int .i64 a2) := (blk_cell HBX.out 2).trans rfl; have c3 : wr.cell? ⟨gb, 3, none⟩ = some (.int .i64 a3) := (blk_cell HBX.out 3).trans rfl; have c4 : wr.cell? ⟨gb, 4, none⟩ = some (.int .i64 a4) := (blk_cell HBX.out 4).trans rfl
     go_wp2_with fail
     refine (Pa.mark_code_alphabet.calls a0 (N : Int) a2 a3 a4 al _ HAL.out).mono ?_; rintro e w1 ⟨rfl, hb⟩; have n0_ := aM (Kd.R_below HO3.out hb); have n1_ := aM (Kd.R_below HO4.out hb); have n2_ := aM (HBX.out.below hb); have n3_ := aM (below_step HB.out hb); clear HO3 HO4 HBX HB hb c0 c1 c2 c3 c4 hx; have HO3 := n0_; have HO4 := n1_; have HBX := n2_; have HB := n3_; clear n0_ n1_ n2_ n3_; have HSZ := aM (HB.out.size)
     go_wp2
     obtain ⟨wp, rfl⟩ : ∃ wp : World, wp = wr := ⟨_, rfl⟩
     go_loopw [4] (fun v wi => ∃ j : Nat, j ≤ al.size ∧ Aside0 (Kd.R Kd.string 9 wi w.heap.size (fun k_ => some k_ ≠ (v : Value).ownBlock) (.slice (some ad) (allW al n).length c) (allW al n)) ∧ Aside0 (Kd.R Kd.string 9 wi w.heap.size (fun k_ => some k_ ≠ (.slice (some ad) (allW al n).length c : Value).ownBlock) v (stepW al ((allW al n).take k) ++ (extW al x).take j)) ∧ Aside0 (IsBox wi gb a0 (N : Int) a2 a3 a4) ∧ Aside0 (wi.heap[w1.heap.size]? = some (.stringIter al j)) ∧ Aside0 (Below w.heap.size w wi)) (fun _ wi => al.size - wi.iterPos w1.heap.size)
     case atStart => exact ⟨0, Nat.zero_le _, ⟨R_newiter2 HO3.out⟩, ⟨by simpa using R_newiter2 HO4.out⟩, ⟨HBX.out.below ((Below.refl _ _).alloc (Nat.le_refl _) _)⟩, ⟨World.iter_heap w1 al 0⟩, ⟨below_iter HB.out HSZ.out _ _⟩⟩
     case round =>
      clear HO3 HO4 HBX HB; obtain ⟨j, hj, HO3, HO4, HBX, HIT, HB⟩ := hrel; have POS := aM (iterPos_of HIT.out); by_cases hjl : j < al.size
      ·obtain ⟨w2, hnx2, hit2, hsz2, hoth2, hbel2⟩ := next_named (P := Tryz.prog) wr w1.heap.size al j HIT.out hjl; have ha := HA.out j hjl; have hd : Utf8.decode al j = ((al[j]'hjl).toNat, 1) := decode_ascii al j hjl ha; rw [hd] at hnx2 hit2; have HTK := aM (extW_take_succ al x j hjl); obtain ⟨b, hbv⟩ : ∃ b, (al[j]'hjl) = b := ⟨_, rfl⟩; rw [hbv] at hnx2 ha HTK; clear hbv hd; have henc := enc_ascii b ha; have HJ := aM (snoc_joined x b hxs2)
       have LEN := aM (show (stepW al ((allW al n).take k) ++ (extW al x).take j).length ≤ 100000000 from by
        rw [List.length_append, stepW_length, List.length_take, List.length_take, extW_length]; have h1 : min k (allW al n).length * al.size ≤ 16777216 * 4 := Nat.mul_le_mul (Nat.le_trans (Nat.min_le_right _ _) LEN0.out) hs4
        omega)
       have LENB := aM (show ((stepW al ((allW al n).take k) ++ (extW al x).take j).length + 1) * 16 ≤ 140737488355328 from by have := LEN.out; omega); clear LEN; have n0_ := aM (R_iter2 HIT.out HO3.out hoth2); have n1_ := aM (R_iter2 HIT.out HO4.out hoth2); have n2_ := aM (HBX.out.iter HIT.out hoth2); have n3_ := aM (hbel2 _ _ HSZ.out HB.out); have n4_ := aM hit2; clear HO3 HO4 HBX HB HIT hoth2 hbel2 hit2 hsz2; have HO3 := n0_; have HO4 := n1_; have HBX := n2_; have HB := n3_; have HIT := n4_; clear n0_ n1_ n2_ n3_ n4_; obtain ⟨d, hdd⟩ : ∃ d, b.toNat = d := ⟨_, rfl⟩; rw [hdd] at hnx2 henc ha; clear hdd
       go_wp2_with (first | ((with_reducible refine gate_dst (N := 30) rfl ?_); refine Kd.R_lit Kd.string _ 9 ?hg (N := 30) ?hd (xs := ([x, ⟨#[b]⟩] : List ByteArray)) (inner := [.string x, .string ⟨#[b]⟩]) (ok := fun _ => True) (okp := fun _ => True) ?hr ?hp (fun _ hk => hk) trivial (Below.refl _ _) (Nat.le_refl _) (by simp) ?_; (case hd => rfl); (case hg => rfl); (case hr => first | (go_simp; done) | (go_simp; rfl)); (case hp => exact (Reps.one (show Kd.M Kd.string _ _ _ x [.string x] from rfl) (Reps.one (show Kd.M Kd.string _ _ _ (⟨#[b]⟩ : ByteArray) [.string ⟨#[b]⟩] from rfl) (Reps.none _ _)))); intro v30 w5 ho hb hg_ hnew_; clear hg_ hnew_; have n0_ := aM (Kd.R_mono (Kd.R_elder' (vA HO3.out) (Kd.R_base ho) hb) (fun _ h_ => h_.1)); have n1_ := aM (Kd.R_elder' (vA HO4.out) (Kd.R_base ho) hb); have n2_ := aM (Kd.R_lower (Kd.R_new' ho (Kd.R_lt (vA HO4.out))) (below_size bB)); have n3_ := aM (below_step bB hb); have n4_ := aM (it_below HIT.out hb); have n5_ := aM (HBX.out.below hb); clear HO3 HO4 HB HIT HBX; have HO3 := n0_; have HO4 := n1_; have HL := n2_; have HB := n3_; have HIT := n4_; have HBX := n5_; clear n0_ n1_ n2_ n3_ n4_ n5_ ho hb; obtain ⟨Ao, co, eo⟩ := Kd.R_slice HL.out; subst eo))
       refine (joined_two _ _ x b _ (Kd.R_reads' HL.out).2.2 (Kd.R_reads' HL.out).2.1 HJ.out).mono ?_; rintro e w14 ⟨rfl, hb⟩; have n0_ := aM (Kd.R_below HO3.out hb); have n1_ := aM (Kd.R_below HO4.out hb); have n2_ := aM (Kd.R_below HL.out hb); have n3_ := aM (below_step HB.out hb); have n4_ := aM (it_below HIT.out hb); have n5_ := aM (HBX.out.below hb); clear HO3 HO4 HL HB HIT HBX hb; have HO3 := n0_; have HO4 := n1_; have HL := n2_; have HB := n3_; have HIT := n4_; have HBX := n5_; clear n0_ n1_ n2_ n3_ n4_ n5_
       go_wp2_with (first | ((with_reducible refine gate_builtin (b := .append) (xs := #[.tmp 26, .tmp 32]) rfl ?_); at_builtin; refine Kd.R_append Kd.string (w0 := w) w.heap.size rfl (.tmp 26) (.tmp 32) 26 9 (.string ⟨#[]⟩) 16 rfl Tryz.underlying26 info9 rfl (by decide) (by decide) u4 (stepW al ((allW al n).take k) ++ (extW al x).take j) (catB [x, ⟨#[b]⟩]) [.string (catB [x, ⟨#[b]⟩])] (fun k_ => some k_ ≠ (.slice (some ad) (allW al n).length c : Value).ownBlock) (fun _ => False) rfl rfl ?aP (fun _ hk => hk.elim) ?aF ?aO ?aB ?aS ?aL ?_; (case aP => exact rfl); (case aB => exact bB); (case aF => exact (fun k_ hk => Kd.fresh' (Kd.R_lt (vA HO3.out)) k_ hk)); (case aO => exact (by (with_reducible repeat (first | apply Kd.R_alloc | apply Kd.R_drewN | apply Kd.R_drew)); exact Kd.R_mono HO4.out (fun _ hk => hk.1))); (case aS => exact (below_size bB)); (case aL => exact LENB.out); intro v33 w15 ho hb hg hat; have n0_ := aM (Kd.R_mono (Kd.R_after (ok := (fun _ => True)) (by (with_reducible repeat (first | apply Kd.R_alloc | apply Kd.R_drewN | apply Kd.R_drew)); exact Kd.R_mono HO3.out (fun _ hk => ⟨trivial, hk⟩)) hg hat) (fun _ h_ => h_.2)); have n4_ := aM (it_grown HIT.out HO4.out hg); have n5_ := aM (box_grown HBX.out HO4.out hg); clear HO3 HO4 HL HB HIT HBX; have HO3 := n0_; have HO4 := aM ho; have HB := aM hb; have HIT := n4_; have HBX := n5_; clear n0_ n4_ n5_ ho hb hg hat))
       go_roundw
       case rel => exact ⟨j + 1, by omega, HO3, ⟨by rw [HTK.out, ← List.append_assoc]; exact HO4.out⟩, HBX, HIT, HB⟩
       case measure => rw [POS.out, iterPos_of HIT.out]; show al.size - (j + 1) < al.size - j; omega
      ·(obtain rfl : j = al.size := by omega); have hnx2 : ∀ ty, (Instr.next (.pointer (some ⟨w1.heap.size, 0, none⟩)) true ty).run Tryz.prog wr = _ := fun ty => run_next_end_at wr w1.heap.size al al.size ty HIT.out (by omega); have HO4' := aM (show Kd.R Kd.string 9 wr w.heap.size (fun k_ => some k_ ≠ (.slice (some ad) (allW al n).length c : Value).ownBlock) _ (stepW al ((allW al n).take (k + 1))) from by rw [HSTEP.out]; have := HO4.out; rwa [List.take_of_length_le (l := extW al x) (by rw [extW_length]; exact Nat.le_refl _)] at this); clear HO4 POS
       go_wp2
       go_roundw
       case rel => exact ⟨k + 1, by omega, by go_num, HO3, HO4', HBX, HB⟩
       case measure => simp [Go.RowKit.intOf]; omega
    ·(obtain rfl : k = (allW al n).length := by omega); have HO4' := aM (show Kd.R Kd.string 9 wr w.heap.size (fun _ => True) _ (allW al (n + 1)) from by have := HO4.out; rw [List.take_of_length_le (Nat.le_refl _)] at this; exact Kd.R_mono this (fun _ _ => trivial)); clear HO4 HO3
     go_wp2
     go_roundw
     case rel => exact ⟨n + 1, by omega, by go_num, HO4', HBX, HB⟩
     case measure => simp [Go.RowKit.intOf]; omega
  ·(obtain rfl : n = N := by omega); (have hne : 0 < (allW al n).length := by rw [allW_length]; exact Nat.pow_pos (by omega)); rcases (Kd.own_of_R HO.out).2 with ⟨_, h0⟩ | ⟨gr, cap, cur, rfl, _⟩
   ·omega
   have hB1 : w.heap.size ≤ wr.heap.size := HB.out.size; have hmf := HBX.out; clear hmf
   go_wp2_with fail
   refine (delete_calls gb a0 (n : Int) a2 a3 a4 w.heap.size gr cap (allW al n) _ HO.out (by have := LEN0.out; omega) hB1 HBX.out HOK.out).mono ?_; rintro e w2 ⟨v', rfl, hr, hb⟩; have HR := aM hr; have HB2 := aM (HB.out.trans hb); clear hr hb
   go_wp2
   go_ret; exact ⟨v', rfl, HR.out, HB2.out⟩
end Go.Proofs.YtopmcoohdhlnaaaGreatDoor.G
namespace Go.Proofs.YtopmcoohdhlnaaaGreatDoor.G
open Go.RowKit Go.Lib Go.Proofs.YtopmcoohdhlnaaaGreatDoorW.PrintWords Go.Proofs.YtopmcoohdhlnaaaGreatDoorW.PrintLast Go.Proofs.YtopmcoohdhlnaaaGreatDoorW.PrintMore
attribute [local go_sem] max2_int min2_int max_two min_two max_three min_three max_four min_four
set_option linter.unusedVariables false
set_option linter.unusedSimpArgs false
/-- A list with one more word, ahead of the first that is not less, unless that is the word. -/
def putL : List ByteArray → ByteArray → List ByteArray
 | [], s => [s]
 | x :: r, s => if Op.bytesLess x.toList s.toList = true then x :: putL r s else if x.toList = s.toList then x :: r else s :: x :: r
theorem putL_length (l : List ByteArray) (s : ByteArray) : (putL l s).length ≤ l.length + 1 := by
 induction l with
 | nil => simp [putL]
 | cons x r ih =>
  simp only [putL]; split
  ·simp only [List.length_cons]; omega
  ·split <;> simp
end Go.Proofs.YtopmcoohdhlnaaaGreatDoor.G
/- The reference's Shorter and Longer: all words that come of a word by one letter less, or by one letter more, in byte order, each once. The steps of the regions that draw their order were printed by a program of this session. -/
namespace Go.Proofs.YtopmcoohdhlnaaaGreatDoor.G
open Go.RowKit Go.Lib Go.Proofs.YtopmcoohdhlnaaaGreatDoorW.PrintWords Go.Proofs.YtopmcoohdhlnaaaGreatDoorW.PrintLast Go.Proofs.YtopmcoohdhlnaaaGreatDoorW.PrintMore
attribute [local go_sem] max2_int min2_int max_two min_two max_three min_three max_four min_four
set_option linter.unusedVariables false
set_option linter.unusedSimpArgs false
/-- Words put into a list, one after the other. -/
def putAll (l : List ByteArray) : List ByteArray := l.foldl putL []
theorem putAll_length (l : List ByteArray) : (putAll l).length ≤ l.length := by
 have : ∀ (l acc : List ByteArray), (l.foldl putL acc).length ≤ acc.length + l.length := by
  intro l
  induction l with
  | nil => intro acc; simp
  | cons x r ih => intro acc; have h1 := ih (putL acc x); have h2 := putL_length acc x; simp only [List.foldl_cons, List.length_cons]; omega
 simpa [putAll] using this l []
/-- A word without its letter k. -/
def delAt (x : ByteArray) (k : Nat) : ByteArray := x.extract 0 k ++ x.extract (k + 1) x.size
def delAll (x : ByteArray) (n : Nat) : List ByteArray := (List.range n).map (delAt x)
theorem delAll_succ (x : ByteArray) (n : Nat) : delAll x (n + 1) = delAll x n ++ [delAt x n] := by simp [delAll, List.range_succ]
theorem delAll_length (x : ByteArray) (n : Nat) : (delAll x n).length = n := by simp [delAll]
/-- A word with letter c of 0123 put in behind its first k. -/
def putAt (x : ByteArray) (k c : Nat) : ByteArray := x.extract 0 k ++ (⟨#[48, 49, 50, 51]⟩ : ByteArray).extract c (c + 1) ++ x.extract k x.size
def putsTo (x : ByteArray) (k q : Nat) : List ByteArray := (List.range q).map (putAt x k)
def putsAll (x : ByteArray) (q n : Nat) : List ByteArray := (List.range n).flatMap fun k => putsTo x k q
theorem putsAll_succ (x : ByteArray) (q n : Nat) : putsAll x q (n + 1) = putsAll x q n ++ putsTo x n q := by simp [putsAll, List.range_succ]
theorem putsAll_length (x : ByteArray) (q n : Nat) : (putsAll x q n).length = n * q := by
 induction n with
 | zero => simp [putsAll]
 | succ n ih => rw [putsAll_succ, List.length_append, ih]; simp [putsTo, Nat.add_mul]
end Go.Proofs.YtopmcoohdhlnaaaGreatDoor.G
namespace Go.Proofs.YtopmcoohdhlnaaaGreatDoor.Pa
open Go.RowKit Go.Proofs.YtopmcoohdhlnaaaGreatDoorW.PrintWords Go.Proofs.YtopmcoohdhlnaaaGreatDoorW.PrintLast Go.Proofs.YtopmcoohdhlnaaaGreatDoorW.PrintMore
attribute [local go_sem] max2_int min2_int max_two min_two max_three min_three max_four min_four   -- for this text's walks alone
set_option linter.unusedVariables false
set_option linter.unusedSimpArgs false
end Go.Proofs.YtopmcoohdhlnaaaGreatDoor.Pa
/- Printed by a program of this session (print2.py). -/
namespace Go.Proofs.YtopmcoohdhlnaaaGreatDoor.Pa
open Go.RowKit Go.Proofs.YtopmcoohdhlnaaaGreatDoorW.PrintWords Go.Proofs.YtopmcoohdhlnaaaGreatDoorW.PrintLast Go.Proofs.YtopmcoohdhlnaaaGreatDoorW.PrintMore
attribute [local go_sem] max2_int min2_int max_two min_two max_three min_three max_four min_four   -- for this text's walks alone
set_option linter.unusedVariables false
set_option linter.unusedSimpArgs false
end Go.Proofs.YtopmcoohdhlnaaaGreatDoor.Pa
/- Printed by a program of this session (print2.py). -/
namespace Go.Proofs.YtopmcoohdhlnaaaGreatDoor.Pa
open Go.RowKit Go.Proofs.YtopmcoohdhlnaaaGreatDoorW.PrintWords Go.Proofs.YtopmcoohdhlnaaaGreatDoorW.PrintLast Go.Proofs.YtopmcoohdhlnaaaGreatDoorW.PrintMore
attribute [local go_sem] max2_int min2_int max_two min_two max_three min_three max_four min_four   -- for this text's walks alone
set_option linter.unusedVariables false
set_option linter.unusedSimpArgs false
def pritchelref09_Same.l0 : Nat → List ByteArray → List ByteArray → Int → Option (Bool)
 | 0, _, _, _ => none
 | k + 1, x0, x1, x5 => if x5 < (x0.length : Int) then (if 0 ≤ x5 then (if x5 < (x1.length : Int) then (if (rdOf ByteArray.empty x0 x5).toList = (rdOf ByteArray.empty x1 x5).toList then (pritchelref09_Same.l0 k x0 x1 (wrap64 (x5 + 1))) else (some false)) else (none)) else (none)) else (some true)
def pritchelref09_Same.f (k : Nat) (l0 : List ByteArray) (l1 : List ByteArray) : Option (Bool) := if (l0.length : Int) = (l1.length : Int) then (pritchelref09_Same.l0 k l0 l1 0) else (some false)
theorem pritchelref09_Same.mono_l : ∀ k, (∀ y0 y1 y2, LeO (pritchelref09_Same.l0 k y0 y1 y2) (pritchelref09_Same.l0 (k + 1) y0 y1 y2))
 | 0 => fun _ _ _ r h => by simp [pritchelref09_Same.l0] at h
 | k + 1 => by
  have ih0 := pritchelref09_Same.mono_l k
  ·intro y0 y1 y2; unfold pritchelref09_Same.l0
   repeat' first
   | (with_reducible exact ih0 _ _ _)
   | (with_reducible exact LeO.refl _)
   | (with_reducible exact LeO.none _)
   | (with_reducible refine LeO.ite ?_ ?_)
   | (with_reducible refine LeO.bind ?_ (fun _ => ?_))
   | exact ih0 _ _ _
   | exact LeO.none _
   | refine LeO.ite ?_ ?_
   | refine LeO.bind ?_ (fun _ => ?_)
theorem pritchelref09_Same.mono : ∀ a0 a1 k, LeO (pritchelref09_Same.f k a0 a1) (pritchelref09_Same.f (k + 1) a0 a1) := by
 intro a0 a1 k; have ih0 := pritchelref09_Same.mono_l k; unfold pritchelref09_Same.f
 repeat' first
   | (with_reducible exact ih0 _ _ _)
   | (with_reducible exact LeO.refl _)
   | (with_reducible exact LeO.none _)
   | (with_reducible refine LeO.ite ?_ ?_)
   | (with_reducible refine LeO.bind ?_ (fun _ => ?_))
   | exact ih0 _ _ _
   | exact LeO.none _
   | refine LeO.ite ?_ ?_
   | refine LeO.bind ?_ (fun _ => ?_)
set_option maxHeartbeats 8000000 in
set_option maxRecDepth 100000 in
theorem pritchelref09_Same.calls (k : Nat) (A0 : Option Addr) (c0 : Nat) (l0 : List ByteArray) (A1 : Option Addr) (c1 : Nat) (l1 : List ByteArray) (r : Bool) (w : World) (hr0 : Kd.C Kd.string w A0 l0.length l0) (hc0 : l0.length ≤ c0) (hr1 : Kd.C Kd.string w A1 l1.length l1) (hc1 : l1.length ≤ c1) (h : pritchelref09_Same.f k l0 l1 = some r) :
  Calls Tryz.prog 11 #[.slice A0 l0.length c0, .slice A1 l1.length c1] w fun e w' => e = .returned (.bool r) ∧ Drawn0 w w' := by
 have HR0 := aM hr0; have HC0 := aM hc0; clear hr0 hc0; have HR1 := aM hr1; have HC1 := aM hc1; clear hr1 hc1; have H : (if (l0.length : Int) = (l1.length : Int) then (pritchelref09_Same.l0 k l0 l1 0) else (some false)) = some r := h; clear h; by_cases c3 : (l0.length : Int) = (l1.length : Int)
 ·rw [if_pos c3] at H; have c3b0 : ((l0.length : Int) == (l1.length : Int)) = true := beq_iff_eq.mpr c3; have c3b1 : ((l0.length : Int) != (l1.length : Int)) = false := bne_eq_false_iff_eq.mpr c3; (have c3b2 : (l0.length == l1.length) = true := by first | simpa using c3 | (simp at c3 ⊢; omega)); clear c3; have H' := aM H; clear H; go_enter Tryz.func11, Tryz.ntmps11
  go_wp2
  (repeat (go_quiet (fail); try go_wp2)); go_loopg [5] k (fun kq v5 w' => ∃ (x5_1 : Int), v5 = .int .i64 x5_1 ∧ Aside0 (pritchelref09_Same.l0 kq l0 l1 x5_1 = some r) ∧ Aside0 (kq ≤ k) ∧ Drawn0 w w')
  case atStart => exact ⟨(0), tS, H', ⟨Nat.le_refl _⟩, by repeat (first | exact Drawn0.refl _ | apply Drawn0.step)⟩
  case round =>
   clear H'; obtain ⟨x5_1, rfl, HA, HK1, ⟨m1, rfl⟩⟩ := hrel
   cases gk with
   | zero => exact absurd HA.out (by simp [pritchelref09_Same.l0])
   | succ k1 =>
    have H := HA.out; clear HA; simp only [pritchelref09_Same.l0] at H; by_cases c4 : x5_1 < (l0.length : Int)
    ·rw [if_pos c4] at H; have c4b0 := decide_eq_true c4; clear c4; by_cases c5 : 0 ≤ x5_1
     ·rw [if_pos c5] at H; have c5b0 := decide_eq_true c5; clear c5; by_cases c6 : x5_1 < (l1.length : Int)
      ·rw [if_pos c6] at H; have c6b0 := decide_eq_true c6; clear c6; by_cases c7 : (rdOf ByteArray.empty l0 x5_1).toList = (rdOf ByteArray.empty l1 x5_1).toList
       ·rw [if_pos c7] at H; have c7b0 : ((rdOf ByteArray.empty l0 x5_1).toList == (rdOf ByteArray.empty l1 x5_1).toList) = true := beq_iff_eq.mpr c7; have c7b1 : ((rdOf ByteArray.empty l0 x5_1).toList != (rdOf ByteArray.empty l1 x5_1).toList) = false := bne_eq_false_iff_eq.mpr c7; clear c7; have H' := aM H; clear H; have p207 : 0 ≤ (x5_1 : Int) := tD; have q207 : x5_1 < (l0.length : Int) := tD; obtain ⟨ad207, e207, hx207_0⟩ := Kd.at_string HR0.out x5_1 p207 q207; cases e207; replace p207 := eq_true p207; replace q207 := eq_true q207; have p208 : 0 ≤ (x5_1 : Int) := tD; have q208 : x5_1 < (l1.length : Int) := tD; obtain ⟨ad208, e208, hx208_0⟩ := Kd.at_string HR1.out x5_1 p208 q208; cases e208; replace p208 := eq_true p208; replace q208 := eq_true q208
        go_wp2
        (repeat (go_quiet (fail); try go_wp2)); go_roundg k1
        case measure => have := HK1.out; omega
        case rel => exact ⟨(wrap64 (x5_1 + 1)), tS, H', ⟨by have := HK1.out; omega⟩, by repeat (first | exact Drawn0.refl _ | apply Drawn0.step)⟩
       ·rw [if_neg c7] at H; have c7b0 : ((rdOf ByteArray.empty l0 x5_1).toList == (rdOf ByteArray.empty l1 x5_1).toList) = false := beq_eq_false_iff_ne.mpr c7; have c7b1 : ((rdOf ByteArray.empty l0 x5_1).toList != (rdOf ByteArray.empty l1 x5_1).toList) = true := bne_iff_ne.mpr c7; obtain rfl := Option.some.inj H; have p207 : 0 ≤ (x5_1 : Int) := tD; have q207 : x5_1 < (l0.length : Int) := tD; obtain ⟨ad207, e207, hx207_0⟩ := Kd.at_string HR0.out x5_1 p207 q207; cases e207; replace p207 := eq_true p207; replace q207 := eq_true q207; have p208 : 0 ≤ (x5_1 : Int) := tD; have q208 : x5_1 < (l1.length : Int) := tD; obtain ⟨ad208, e208, hx208_0⟩ := Kd.at_string HR1.out x5_1 p208 q208; cases e208; replace p208 := eq_true p208; replace q208 := eq_true q208
        go_wp2
        (repeat (go_quiet (fail); try go_wp2)); go_ret; exact ⟨tS, by repeat (first | exact Drawn0.refl _ | apply Drawn0.step)⟩
      ·rw [if_neg c6] at H; exact absurd H (by simp)
     ·rw [if_neg c5] at H; exact absurd H (by simp)
    ·rw [if_neg c4] at H; have c4b0 := decide_eq_false c4; clear c4; obtain rfl := Option.some.inj H
     go_wp2
     (repeat (go_quiet (fail); try go_wp2)); go_ret; exact ⟨tS, by repeat (first | exact Drawn0.refl _ | apply Drawn0.step)⟩
 ·rw [if_neg c3] at H; have c3b0 : ((l0.length : Int) == (l1.length : Int)) = false := beq_eq_false_iff_ne.mpr c3; have c3b1 : ((l0.length : Int) != (l1.length : Int)) = true := bne_iff_ne.mpr c3; (have c3b2 : (l0.length == l1.length) = false := by first | simpa using c3 | (simp at c3 ⊢; omega)); obtain rfl := Option.some.inj H; go_enter Tryz.func11, Tryz.ntmps11
  go_wp2
  (repeat (go_quiet (fail); try go_wp2)); go_ret; exact ⟨tS, by repeat (first | exact Drawn0.refl _ | apply Drawn0.step)⟩
end Go.Proofs.YtopmcoohdhlnaaaGreatDoor.Pa
namespace Go.Proofs.YtopmcoohdhlnaaaGreatDoor.Pb
open Go.RowKit Go.Proofs.YtopmcoohdhlnaaaGreatDoorW.PrintWords Go.Proofs.YtopmcoohdhlnaaaGreatDoorW.PrintLast Go.Proofs.YtopmcoohdhlnaaaGreatDoorW.PrintMore
attribute [local go_sem] max2_int min2_int max_two min_two max_three min_three max_four min_four   -- for this text's walks alone
set_option linter.unusedVariables false
set_option linter.unusedSimpArgs false
def errW : Option Int → Value
 | none => .nilIface
 | some c => .iface 0 (.int .i64 c)
theorem errW_none : errW none = .nilIface := rfl
theorem errW_some (c : Int) : errW (some c) = .iface 0 (.int .i64 c) := rfl
theorem info5 : (Tryz.prog.info? 5).map (fun i => (i.zero, i.size, i.bytes)) = some (some (.int .u8 0), 1, 1) := by kernel_rfl
theorem info9 : (Tryz.prog.info? 9).map (fun i => (i.zero, i.size, i.bytes)) = some (some (.string ⟨#[]⟩), 1, 16) := by kernel_rfl
theorem info26 : (Tryz.prog.info? 26).map (fun i => (i.zero, i.size, i.bytes)) = some (some (.slice none 0 0), 1, 24) := by kernel_rfl
def rd_L2 (xs : List (List ByteArray)) (i : Int) : (List ByteArray) := xs.getD i.toNat ([] : List ByteArray)
theorem at_L2 {w : World} {A : Option Addr} {n : Nat} {xs : List (List ByteArray)} (h : Kd.C (Kd.slice 9 Kd.string) w A n xs) (i : Int) (h0 : 0 ≤ i) (h1 : i < n) : ∃ ad A0 c0, A = some ad ∧ w.cell? (ad.add i.toNat) = some (.slice A0 (rd_L2 xs i).length c0) ∧ (rd_L2 xs i).length ≤ c0 ∧ Kd.string.C w A0 (rd_L2 xs i).length (rd_L2 xs i) := by
 obtain ⟨ad, c, e, _, hK, hc0⟩ := Kd.C_get h ([] : List ByteArray) i h0 h1; have hc : ∀ j u, c[j]? = some u → w.cell? (ad.add (i.toNat * 1 + j)) = some u := hc0; obtain ⟨A0, c0, rfl, l0, g0⟩ := hK; exact ⟨ad, A0, c0, e, by have hq := hc 0 _ rfl; rwa [Nat.mul_one, Nat.add_zero] at hq, l0, g0⟩
structure S68 where
 f0 : Int
 f1 : Int
 f2 : Int
 f3 : Int
 f4 : Int
structure S52 where
 f0 : Int
 f1 : Int
 f2 : Int
 f3 : Int
end Go.Proofs.YtopmcoohdhlnaaaGreatDoor.Pb
namespace Go.Proofs.YtopmcoohdhlnaaaGreatDoor.Pb
open Go.RowKit Go.Proofs.YtopmcoohdhlnaaaGreatDoorW.PrintWords Go.Proofs.YtopmcoohdhlnaaaGreatDoorW.PrintLast Go.Proofs.YtopmcoohdhlnaaaGreatDoorW.PrintMore
attribute [local go_sem] max2_int min2_int max_two min_two max_three min_three max_four min_four   -- for this text's walks alone
set_option linter.unusedVariables false
set_option linter.unusedSimpArgs false
def mark_Restore.j0 : Nat → Int → Int → ByteArray → Bool → Option (ByteArray × Int)
 | 0, _, _, _, _ => none
 | k + 1, x0, x1, x2, x29 => if x29 = true then (some ((⟨#[]⟩ : ByteArray), 1)) else ((G.mark_longer.f x2 (⟨#[48, 49]⟩ : ByteArray)).bind fun t105 => ((G.mark_code_only.f 0 x0 2 x1 0 t105).bind fun bt108 => (some (bt108.1, bt108.2))))
def mark_Restore.f (k : Nat) (a0 : Int) (a1 : Int) (a2 : ByteArray) : Option (ByteArray × Int) := (G.mark_check.f 20 (⟨#[48, 49]⟩ : ByteArray) (([a2] : List ByteArray))).bind fun t104 => (if t104 = 0 then (if a0 < 1 then (mark_Restore.j0 k a0 a1 a2 true) else (if a0 > 20 then (mark_Restore.j0 k a0 a1 a2 true) else (if a1 < 0 then (mark_Restore.j0 k a0 a1 a2 true) else (mark_Restore.j0 k a0 a1 a2 (decide (a1 > a0)))))) else (some ((⟨#[]⟩ : ByteArray), t104)))
theorem mark_Restore.mono_l : ∀ k, (∀ y0 y1 y2 y3, LeO (mark_Restore.j0 k y0 y1 y2 y3) (mark_Restore.j0 (k + 1) y0 y1 y2 y3))
 | 0 => fun _ _ _ _ r h => by simp [mark_Restore.j0] at h
 | k + 1 => by
  have ih0 := mark_Restore.mono_l k
  ·intro y0 y1 y2 y3; unfold mark_Restore.j0
   repeat' first
   | (with_reducible exact ih0 _ _ _ _)
   | (with_reducible exact LeO.refl _)
   | (with_reducible exact LeO.none _)
   | (with_reducible refine LeO.ite ?_ ?_)
   | (with_reducible refine LeO.bind ?_ (fun _ => ?_))
   | exact ih0 _ _ _ _
   | exact LeO.none _
   | refine LeO.ite ?_ ?_
   | refine LeO.bind ?_ (fun _ => ?_)
theorem mark_Restore.mono : ∀ a0 a1 a2 k, LeO (mark_Restore.f k a0 a1 a2) (mark_Restore.f (k + 1) a0 a1 a2) := by
 intro a0 a1 a2 k; have ih0 := mark_Restore.mono_l k; unfold mark_Restore.f
 repeat' first
   | (with_reducible exact ih0 _ _ _ _)
   | (with_reducible exact LeO.refl _)
   | (with_reducible exact LeO.none _)
   | (with_reducible refine LeO.ite ?_ ?_)
   | (with_reducible refine LeO.bind ?_ (fun _ => ?_))
   | exact ih0 _ _ _ _
   | exact LeO.none _
   | refine LeO.ite ?_ ?_
   | refine LeO.bind ?_ (fun _ => ?_)
set_option maxHeartbeats 8000000 in
set_option maxRecDepth 100000 in
theorem mark_Restore.calls (k : Nat) (a0 : Int) (a1 : Int) (a2 : ByteArray) (r1 : ByteArray) (r2 : Int) (w : World) (hT : Lib.Utf8Tabs 1 2 w) (h : mark_Restore.f k a0 a1 a2 = some (r1, r2)) :
  Calls Tryz.prog 26 #[.int .i64 a0, .int .i64 a1, .string a2] w fun e w' => e = .returned (.tuple #[.string r1, .int .i64 r2]) ∧ Below w.heap.size w w' := by
 have hu68 := Tryz.underlying61; have HB := aM (Below.refl w.heap.size w); have HT := aM hT; clear hT; have H : ((G.mark_check.f 20 (⟨#[48, 49]⟩ : ByteArray) (([a2] : List ByteArray))).bind fun t104 => (if t104 = 0 then (if a0 < 1 then (mark_Restore.j0 k a0 a1 a2 true) else (if a0 > 20 then (mark_Restore.j0 k a0 a1 a2 true) else (if a1 < 0 then (mark_Restore.j0 k a0 a1 a2 true) else (mark_Restore.j0 k a0 a1 a2 (decide (a1 > a0)))))) else (some ((⟨#[]⟩ : ByteArray), t104)))) = some (r1, r2) := h; clear h; obtain ⟨y101, hy101⟩ : ∃ y_ : List ByteArray, y_ = (([a2] : List ByteArray)) := ⟨_, rfl⟩; replace H : ((G.mark_check.f 20 (⟨#[48, 49]⟩ : ByteArray) y101).bind fun t104 => (if t104 = 0 then (if a0 < 1 then (mark_Restore.j0 k a0 a1 a2 true) else (if a0 > 20 then (mark_Restore.j0 k a0 a1 a2 true) else (if a1 < 0 then (mark_Restore.j0 k a0 a1 a2 true) else (mark_Restore.j0 k a0 a1 a2 (decide (a1 > a0)))))) else (some ((⟨#[]⟩ : ByteArray), t104)))) = some (r1, r2) := tH hy101 H; have Ny101 := aM hy101; clear hy101; replace H := Option.bind_eq_some_iff.mp H; obtain ⟨t104, A40, H⟩ := H; (try dsimp -simprocs only at H); have A4 := aM A40; clear A40; by_cases c5 : t104 = 0
 ·rw [if_pos c5] at H; have c5b0 : (t104 == 0) = true := beq_iff_eq.mpr c5; have c5b1 : (t104 != 0) = false := bne_eq_false_iff_eq.mpr c5; clear c5; have HC6 := aM H; clear H; go_enter Tryz.func26, Tryz.ntmps26; go_upto_region 4 with (first | ((with_reducible refine gate_dst (N := 10) rfl ?_); refine Kd.R_lit Kd.string _ 9 ?hg (N := 10) ?hd (xs := ([a2] : List ByteArray)) (inner := [.string a2]) (ok := fun _ => True) (okp := fun _ => True) ?hr ?hp (fun _ hk => hk) trivial (Below.refl _ _) (Nat.le_refl _) (by simp) ?_; (case hd => rfl); (case hg => rfl); (case hr => first | (go_simp; done) | (go_simp; rfl)); (case hp => exact (Reps.one (show Kd.M Kd.string _ _ _ a2 [.string a2] from rfl) (Reps.none _ _))); intro v102 w7 ho8 hb hg_ hnew_; clear hg_ hnew_; (first | rw [← Ny101.out] at ho8 | (simp only [Int.reduceToNat] at ho8; rw [← Ny101.out] at ho8)); have HO103 := aM (Kd.R_lower ho8 (below_size bB)); replace HB := aM (below_step bB hb); clear hb ho8; obtain ⟨Ao9, co9, eo9⟩ := Kd.R_slice HO103.out; subst eo9) | ((with_reducible refine gate_callee (f := 49) rfl ?_); refine goesL_ (some 11) rfl rfl Tryz.func49 (by kernel_rfl) rfl #[.int .i64 20, .string (⟨#[48, 49]⟩ : ByteArray), .slice Ao9 y101.length co9] rfl tL ?_; (with_reducible refine (G.mark_check.calls 20 (⟨#[48, 49]⟩ : ByteArray) _ _ y101 t104 _ ?side1 ?side2 ?side3 A4.out).mono ?_); (case side1 => repeat (first | exact (Kd.R_reads' HO103.out).2.2 | (with_reducible refine Kd.C_alloc ?_ _) | (with_reducible refine Kd.C_drewN ?_ _) | (with_reducible refine Kd.C_drew ?_))); (case side2 => exact (Kd.R_reads' HO103.out).2.1); (case side3 => exact tabs_below HT.out bB); rintro e w10 ⟨rfl, hb⟩; refine ⟨_, rfl, ?_⟩; replace HO103 := aM (Kd.R_below (vA HO103.out) hb); replace HB := aM (below_step bB hb); (try clear hb); (try clear hb2); (try clear hk); (try clear hi))); (try simp only [Act.put, List.setIfInBounds_toArray, List.set_cons_zero, List.set_cons_succ]); go_cut [29] (fun v29 wc => ∃ (kq : Nat) (x29_5 : Bool), v29 = .bool x29_5 ∧ Aside0 (mark_Restore.j0 kq a0 a1 a2 x29_5 = some (r1, r2)) ∧ Aside0 (kq ≤ k) ∧ Aside0 (Below w.heap.size w wc))
  case first =>
   have H := HC6.out; clear HC6; by_cases c11 : a0 < 1
   ·rw [if_pos c11] at H; have c11b0 := decide_eq_true c11; clear c11; (first | rw [c11b0] | (simp only [i64_w, i32_w]; rw [c11b0]) | skip); have H' := aM H; clear H
    go_wp2
    go_meet
    case rel => exact ⟨_, (true), tS, H', ⟨by first | omega | exact Nat.le_refl _⟩, ⟨bB⟩⟩
   ·rw [if_neg c11] at H; have c11b0 := decide_eq_false c11; clear c11; (first | rw [c11b0] | (simp only [i64_w, i32_w]; rw [c11b0]) | skip); by_cases c12 : a0 > 20
    ·rw [if_pos c12] at H; have c12b0 : decide (20 < a0) = true := decide_eq_true c12; clear c12; have H' := aM H; clear H
     go_wp2
     go_meet
     case rel => exact ⟨_, (true), tS, H', ⟨by first | omega | exact Nat.le_refl _⟩, ⟨bB⟩⟩
    ·rw [if_neg c12] at H; have c12b0 : decide (20 < a0) = false := decide_eq_false c12; clear c12; by_cases c13 : a1 < 0
     ·rw [if_pos c13] at H; have c13b0 := decide_eq_true c13; clear c13; have H' := aM H; clear H
      go_wp2
      go_meet
      case rel => exact ⟨_, (true), tS, H', ⟨by first | omega | exact Nat.le_refl _⟩, ⟨bB⟩⟩
     ·rw [if_neg c13] at H; have c13b0 := decide_eq_false c13; clear c13; have H' := aM H; clear H
      go_wp2
      go_meet
      case rel => exact ⟨_, (decide (a1 > a0)), tS, H', ⟨by first | omega | exact Nat.le_refl _⟩, ⟨bB⟩⟩
  case rest =>
   clear HC6; obtain ⟨kq, x29_5, rfl, HA, HJ5, HB⟩ := hcut
   cases kq with
   | zero => exact absurd HA.out (by simp [mark_Restore.j0])
   | succ kj5 =>
    have H := HA.out; clear HA; simp only [mark_Restore.j0] at H; by_cases c14 : x29_5 = true
    ·subst c14; rw [if_pos rfl] at H; simp only [Option.some.injEq, Prod.mk.injEq] at H; obtain ⟨rfl, rfl⟩ := H
     go_wp2
     go_ret2; exact ⟨tE, bB⟩
    ·replace c14 := Bool.eq_false_iff.mpr c14; subst c14; rw [if_neg (show ¬ (false = true) by decide)] at H; replace H := Option.bind_eq_some_iff.mp H; obtain ⟨t105, A150, H⟩ := H; (try dsimp -simprocs only at H); have A15 := aM A150; clear A150; replace H := Option.bind_eq_some_iff.mp H; obtain ⟨⟨t108, t109⟩, A160, H⟩ := H; (try dsimp -simprocs only at H); have A16 := aM A160; clear A160; simp only [Option.some.injEq, Prod.mk.injEq] at H; obtain ⟨rfl, rfl⟩ := H
     go_wp2_with (first | ((with_reducible refine gate_callee (f := 51) rfl ?_); refine goesL_ (some 34) rfl rfl Tryz.func51 (by kernel_rfl) rfl #[.string a2, .string (⟨#[48, 49]⟩ : ByteArray)] rfl tL ?_; (with_reducible refine (G.mark_longer.calls a2 (⟨#[48, 49]⟩ : ByteArray) t105 _ A15.out).mono ?_); rintro e w17 ⟨v106, rfl, ho0, hb⟩; refine ⟨_, rfl, ?_⟩; have HO107 := aM (Kd.R_lower ho0 (below_size bB)); replace HB := aM (below_step bB hb); (try clear hb); (try clear hb2); (try clear hk); (try clear hi); (try clear ho0); obtain ⟨Ao18, co18, eo18⟩ := Kd.R_slice HO107.out; subst eo18) | ((with_reducible refine gate_callee (f := 50) rfl ?_); refine goesL_ (some 35) rfl rfl Tryz.func50 (by kernel_rfl) rfl #[.agg #[.int .i64 0, .int .i64 a0, .int .i64 2, .int .i64 a1, .int .i64 0], .slice Ao18 t105.length co18] rfl tL ?_; (with_reducible refine (G.mark_code_only.calls 0 a0 2 a1 0 _ _ t105 t108 t109 _ ?side1 ?side2 A16.out).mono ?_); (case side1 => repeat (first | exact (Kd.R_reads' HO107.out).2.2 | (with_reducible refine Kd.C_alloc ?_ _) | (with_reducible refine Kd.C_drewN ?_ _) | (with_reducible refine Kd.C_drew ?_))); (case side2 => exact (Kd.R_reads' HO107.out).2.1); rintro e w19 ⟨rfl, hb⟩; refine ⟨_, rfl, ?_⟩; replace HO107 := aM (Kd.R_below (vA HO107.out) hb); replace HB := aM (below_step bB hb); (try clear hb); (try clear hb2); (try clear hk); (try clear hi)))
     go_ret2; exact ⟨tE, bB⟩
 ·rw [if_neg c5] at H; have c5b0 : (t104 == 0) = false := beq_eq_false_iff_ne.mpr c5; have c5b1 : (t104 != 0) = true := bne_iff_ne.mpr c5; simp only [Option.some.injEq, Prod.mk.injEq] at H; obtain ⟨rfl, rfl⟩ := H; go_enter Tryz.func26, Tryz.ntmps26
  go_wp2_with (first | ((with_reducible refine gate_dst (N := 10) rfl ?_); refine Kd.R_lit Kd.string _ 9 ?hg (N := 10) ?hd (xs := ([a2] : List ByteArray)) (inner := [.string a2]) (ok := fun _ => True) (okp := fun _ => True) ?hr ?hp (fun _ hk => hk) trivial (Below.refl _ _) (Nat.le_refl _) (by simp) ?_; (case hd => rfl); (case hg => rfl); (case hr => first | (go_simp; done) | (go_simp; rfl)); (case hp => exact (Reps.one (show Kd.M Kd.string _ _ _ a2 [.string a2] from rfl) (Reps.none _ _))); intro v102 w20 ho21 hb hg_ hnew_; clear hg_ hnew_; (first | rw [← Ny101.out] at ho21 | (simp only [Int.reduceToNat] at ho21; rw [← Ny101.out] at ho21)); have HO103 := aM (Kd.R_lower ho21 (below_size bB)); replace HB := aM (below_step bB hb); clear hb ho21; obtain ⟨Ao22, co22, eo22⟩ := Kd.R_slice HO103.out; subst eo22) | ((with_reducible refine gate_callee (f := 49) rfl ?_); refine goesL_ (some 11) rfl rfl Tryz.func49 (by kernel_rfl) rfl #[.int .i64 20, .string (⟨#[48, 49]⟩ : ByteArray), .slice Ao22 y101.length co22] rfl tL ?_; (with_reducible refine (G.mark_check.calls 20 (⟨#[48, 49]⟩ : ByteArray) _ _ y101 t104 _ ?side1 ?side2 ?side3 A4.out).mono ?_); (case side1 => repeat (first | exact (Kd.R_reads' HO103.out).2.2 | (with_reducible refine Kd.C_alloc ?_ _) | (with_reducible refine Kd.C_drewN ?_ _) | (with_reducible refine Kd.C_drew ?_))); (case side2 => exact (Kd.R_reads' HO103.out).2.1); (case side3 => exact tabs_below HT.out bB); rintro e w23 ⟨rfl, hb⟩; refine ⟨_, rfl, ?_⟩; replace HO103 := aM (Kd.R_below (vA HO103.out) hb); replace HB := aM (below_step bB hb); (try clear hb); (try clear hb2); (try clear hk); (try clear hi)))
  go_ret2; exact ⟨tE, bB⟩
end Go.Proofs.YtopmcoohdhlnaaaGreatDoor.Pb
/- Printed by a program of this session (print2.py). -/
namespace Go.Proofs.YtopmcoohdhlnaaaGreatDoor.Pb
open Go.RowKit Go.Proofs.YtopmcoohdhlnaaaGreatDoorW.PrintWords Go.Proofs.YtopmcoohdhlnaaaGreatDoorW.PrintLast Go.Proofs.YtopmcoohdhlnaaaGreatDoorW.PrintMore
attribute [local go_sem] max2_int min2_int max_two min_two max_three min_three max_four min_four   -- for this text's walks alone
set_option linter.unusedVariables false
set_option linter.unusedSimpArgs false
def mark_Remove.j0 : Nat → Int → Int → ByteArray → Bool → Option (ByteArray × Int)
 | 0, _, _, _, _ => none
 | k + 1, x0, x1, x2, x29 => if x29 = true then (some ((⟨#[]⟩ : ByteArray), 1)) else ((G.mark_shorter.f k x2).bind fun t114 => ((G.mark_code_only.f 0 x0 2 x1 0 t114).bind fun bt117 => (some (bt117.1, bt117.2))))
def mark_Remove.f (k : Nat) (a0 : Int) (a1 : Int) (a2 : ByteArray) : Option (ByteArray × Int) := (G.mark_check.f 21 (⟨#[48, 49]⟩ : ByteArray) (([a2] : List ByteArray))).bind fun t113 => (if t113 = 0 then (if a0 < 1 then (mark_Remove.j0 k a0 a1 a2 true) else (if a0 > 20 then (mark_Remove.j0 k a0 a1 a2 true) else (if a1 < 0 then (mark_Remove.j0 k a0 a1 a2 true) else (mark_Remove.j0 k a0 a1 a2 (decide (a1 > a0)))))) else (some ((⟨#[]⟩ : ByteArray), t113)))
theorem mark_Remove.mono_l : ∀ k, (∀ y0 y1 y2 y3, LeO (mark_Remove.j0 k y0 y1 y2 y3) (mark_Remove.j0 (k + 1) y0 y1 y2 y3))
 | 0 => fun _ _ _ _ r h => by simp [mark_Remove.j0] at h
 | k + 1 => by
  have ih0 := mark_Remove.mono_l k
  ·intro y0 y1 y2 y3; unfold mark_Remove.j0
   repeat' first
   | (with_reducible exact ih0 _ _ _ _)
   | (with_reducible exact G.mark_shorter.mono _ _)
   | (with_reducible exact LeO.refl _)
   | (with_reducible exact LeO.none _)
   | (with_reducible refine LeO.ite ?_ ?_)
   | (with_reducible refine LeO.bind ?_ (fun _ => ?_))
   | exact ih0 _ _ _ _
   | exact G.mark_shorter.mono _ _
   | exact LeO.none _
   | refine LeO.ite ?_ ?_
   | refine LeO.bind ?_ (fun _ => ?_)
theorem mark_Remove.mono : ∀ a0 a1 a2 k, LeO (mark_Remove.f k a0 a1 a2) (mark_Remove.f (k + 1) a0 a1 a2) := by
 intro a0 a1 a2 k; have ih0 := mark_Remove.mono_l k; unfold mark_Remove.f
 repeat' first
   | (with_reducible exact ih0 _ _ _ _)
   | (with_reducible exact G.mark_shorter.mono _ _)
   | (with_reducible exact LeO.refl _)
   | (with_reducible exact LeO.none _)
   | (with_reducible refine LeO.ite ?_ ?_)
   | (with_reducible refine LeO.bind ?_ (fun _ => ?_))
   | exact ih0 _ _ _ _
   | exact G.mark_shorter.mono _ _
   | exact LeO.none _
   | refine LeO.ite ?_ ?_
   | refine LeO.bind ?_ (fun _ => ?_)
set_option maxHeartbeats 8000000 in
set_option maxRecDepth 100000 in
theorem mark_Remove.calls (k : Nat) (a0 : Int) (a1 : Int) (a2 : ByteArray) (r1 : ByteArray) (r2 : Int) (w : World) (hT : Lib.Utf8Tabs 1 2 w) (h : mark_Remove.f k a0 a1 a2 = some (r1, r2)) :
  Calls Tryz.prog 27 #[.int .i64 a0, .int .i64 a1, .string a2] w fun e w' => e = .returned (.tuple #[.string r1, .int .i64 r2]) ∧ Below w.heap.size w w' := by
 have hu68 := Tryz.underlying61; have HB := aM (Below.refl w.heap.size w); have HT := aM hT; clear hT; have H : ((G.mark_check.f 21 (⟨#[48, 49]⟩ : ByteArray) (([a2] : List ByteArray))).bind fun t113 => (if t113 = 0 then (if a0 < 1 then (mark_Remove.j0 k a0 a1 a2 true) else (if a0 > 20 then (mark_Remove.j0 k a0 a1 a2 true) else (if a1 < 0 then (mark_Remove.j0 k a0 a1 a2 true) else (mark_Remove.j0 k a0 a1 a2 (decide (a1 > a0)))))) else (some ((⟨#[]⟩ : ByteArray), t113)))) = some (r1, r2) := h; clear h; obtain ⟨y110, hy110⟩ : ∃ y_ : List ByteArray, y_ = (([a2] : List ByteArray)) := ⟨_, rfl⟩; replace H : ((G.mark_check.f 21 (⟨#[48, 49]⟩ : ByteArray) y110).bind fun t113 => (if t113 = 0 then (if a0 < 1 then (mark_Remove.j0 k a0 a1 a2 true) else (if a0 > 20 then (mark_Remove.j0 k a0 a1 a2 true) else (if a1 < 0 then (mark_Remove.j0 k a0 a1 a2 true) else (mark_Remove.j0 k a0 a1 a2 (decide (a1 > a0)))))) else (some ((⟨#[]⟩ : ByteArray), t113)))) = some (r1, r2) := tH hy110 H; have Ny110 := aM hy110; clear hy110; replace H := Option.bind_eq_some_iff.mp H; obtain ⟨t113, A40, H⟩ := H; (try dsimp -simprocs only at H); have A4 := aM A40; clear A40; by_cases c5 : t113 = 0
 ·rw [if_pos c5] at H; have c5b0 : (t113 == 0) = true := beq_iff_eq.mpr c5; have c5b1 : (t113 != 0) = false := bne_eq_false_iff_eq.mpr c5; clear c5; have HC6 := aM H; clear H; go_enter Tryz.func27, Tryz.ntmps27; go_upto_region 4 with (first | ((with_reducible refine gate_dst (N := 10) rfl ?_); refine Kd.R_lit Kd.string _ 9 ?hg (N := 10) ?hd (xs := ([a2] : List ByteArray)) (inner := [.string a2]) (ok := fun _ => True) (okp := fun _ => True) ?hr ?hp (fun _ hk => hk) trivial (Below.refl _ _) (Nat.le_refl _) (by simp) ?_; (case hd => rfl); (case hg => rfl); (case hr => first | (go_simp; done) | (go_simp; rfl)); (case hp => exact (Reps.one (show Kd.M Kd.string _ _ _ a2 [.string a2] from rfl) (Reps.none _ _))); intro v111 w7 ho8 hb hg_ hnew_; clear hg_ hnew_; (first | rw [← Ny110.out] at ho8 | (simp only [Int.reduceToNat] at ho8; rw [← Ny110.out] at ho8)); have HO112 := aM (Kd.R_lower ho8 (below_size bB)); replace HB := aM (below_step bB hb); clear hb ho8; obtain ⟨Ao9, co9, eo9⟩ := Kd.R_slice HO112.out; subst eo9) | ((with_reducible refine gate_callee (f := 49) rfl ?_); refine goesL_ (some 11) rfl rfl Tryz.func49 (by kernel_rfl) rfl #[.int .i64 21, .string (⟨#[48, 49]⟩ : ByteArray), .slice Ao9 y110.length co9] rfl tL ?_; (with_reducible refine (G.mark_check.calls 21 (⟨#[48, 49]⟩ : ByteArray) _ _ y110 t113 _ ?side1 ?side2 ?side3 A4.out).mono ?_); (case side1 => repeat (first | exact (Kd.R_reads' HO112.out).2.2 | (with_reducible refine Kd.C_alloc ?_ _) | (with_reducible refine Kd.C_drewN ?_ _) | (with_reducible refine Kd.C_drew ?_))); (case side2 => exact (Kd.R_reads' HO112.out).2.1); (case side3 => exact tabs_below HT.out bB); rintro e w10 ⟨rfl, hb⟩; refine ⟨_, rfl, ?_⟩; replace HO112 := aM (Kd.R_below (vA HO112.out) hb); replace HB := aM (below_step bB hb); (try clear hb); (try clear hb2); (try clear hk); (try clear hi))); (try simp only [Act.put, List.setIfInBounds_toArray, List.set_cons_zero, List.set_cons_succ]); go_cut [29] (fun v29 wc => ∃ (kq : Nat) (x29_5 : Bool), v29 = .bool x29_5 ∧ Aside0 (mark_Remove.j0 kq a0 a1 a2 x29_5 = some (r1, r2)) ∧ Aside0 (kq ≤ k) ∧ Aside0 (Below w.heap.size w wc))
  case first =>
   have H := HC6.out; clear HC6; by_cases c11 : a0 < 1
   ·rw [if_pos c11] at H; have c11b0 := decide_eq_true c11; clear c11; (first | rw [c11b0] | (simp only [i64_w, i32_w]; rw [c11b0]) | skip); have H' := aM H; clear H
    go_wp2
    go_meet
    case rel => exact ⟨_, (true), tS, H', ⟨by first | omega | exact Nat.le_refl _⟩, ⟨bB⟩⟩
   ·rw [if_neg c11] at H; have c11b0 := decide_eq_false c11; clear c11; (first | rw [c11b0] | (simp only [i64_w, i32_w]; rw [c11b0]) | skip); by_cases c12 : a0 > 20
    ·rw [if_pos c12] at H; have c12b0 : decide (20 < a0) = true := decide_eq_true c12; clear c12; have H' := aM H; clear H
     go_wp2
     go_meet
     case rel => exact ⟨_, (true), tS, H', ⟨by first | omega | exact Nat.le_refl _⟩, ⟨bB⟩⟩
    ·rw [if_neg c12] at H; have c12b0 : decide (20 < a0) = false := decide_eq_false c12; clear c12; by_cases c13 : a1 < 0
     ·rw [if_pos c13] at H; have c13b0 := decide_eq_true c13; clear c13; have H' := aM H; clear H
      go_wp2
      go_meet
      case rel => exact ⟨_, (true), tS, H', ⟨by first | omega | exact Nat.le_refl _⟩, ⟨bB⟩⟩
     ·rw [if_neg c13] at H; have c13b0 := decide_eq_false c13; clear c13; have H' := aM H; clear H
      go_wp2
      go_meet
      case rel => exact ⟨_, (decide (a1 > a0)), tS, H', ⟨by first | omega | exact Nat.le_refl _⟩, ⟨bB⟩⟩
  case rest =>
   clear HC6; obtain ⟨kq, x29_5, rfl, HA, HJ5, HB⟩ := hcut
   cases kq with
   | zero => exact absurd HA.out (by simp [mark_Remove.j0])
   | succ kj5 =>
    have H := HA.out; clear HA; simp only [mark_Remove.j0] at H; by_cases c14 : x29_5 = true
    ·subst c14; rw [if_pos rfl] at H; simp only [Option.some.injEq, Prod.mk.injEq] at H; obtain ⟨rfl, rfl⟩ := H
     go_wp2
     go_ret2; exact ⟨tE, bB⟩
    ·replace c14 := Bool.eq_false_iff.mpr c14; subst c14; rw [if_neg (show ¬ (false = true) by decide)] at H; replace H := Option.bind_eq_some_iff.mp H; obtain ⟨t114, A150, H⟩ := H; (try dsimp -simprocs only at H); have A15 := aM A150; clear A150; replace H := Option.bind_eq_some_iff.mp H; obtain ⟨⟨t117, t118⟩, A160, H⟩ := H; (try dsimp -simprocs only at H); have A16 := aM A160; clear A160; simp only [Option.some.injEq, Prod.mk.injEq] at H; obtain ⟨rfl, rfl⟩ := H
     go_wp2_with (first | ((with_reducible refine gate_callee (f := 52) rfl ?_); refine goesL_ (some 34) rfl rfl Tryz.func52 (by kernel_rfl) rfl #[.string a2] rfl tL ?_; (with_reducible refine (G.mark_shorter.calls kj5 a2 t114 _ A15.out).mono ?_); rintro e w17 ⟨v115, rfl, ho0, hb⟩; refine ⟨_, rfl, ?_⟩; have HO116 := aM (Kd.R_lower ho0 (below_size bB)); replace HB := aM (below_step bB hb); (try clear hb); (try clear hb2); (try clear hk); (try clear hi); (try clear ho0); obtain ⟨Ao18, co18, eo18⟩ := Kd.R_slice HO116.out; subst eo18) | ((with_reducible refine gate_callee (f := 50) rfl ?_); refine goesL_ (some 35) rfl rfl Tryz.func50 (by kernel_rfl) rfl #[.agg #[.int .i64 0, .int .i64 a0, .int .i64 2, .int .i64 a1, .int .i64 0], .slice Ao18 t114.length co18] rfl tL ?_; (with_reducible refine (G.mark_code_only.calls 0 a0 2 a1 0 _ _ t114 t117 t118 _ ?side1 ?side2 A16.out).mono ?_); (case side1 => repeat (first | exact (Kd.R_reads' HO116.out).2.2 | (with_reducible refine Kd.C_alloc ?_ _) | (with_reducible refine Kd.C_drewN ?_ _) | (with_reducible refine Kd.C_drew ?_))); (case side2 => exact (Kd.R_reads' HO116.out).2.1); rintro e w19 ⟨rfl, hb⟩; refine ⟨_, rfl, ?_⟩; replace HO116 := aM (Kd.R_below (vA HO116.out) hb); replace HB := aM (below_step bB hb); (try clear hb); (try clear hb2); (try clear hk); (try clear hi)))
     go_ret2; exact ⟨tE, bB⟩
 ·rw [if_neg c5] at H; have c5b0 : (t113 == 0) = false := beq_eq_false_iff_ne.mpr c5; have c5b1 : (t113 != 0) = true := bne_iff_ne.mpr c5; simp only [Option.some.injEq, Prod.mk.injEq] at H; obtain ⟨rfl, rfl⟩ := H; go_enter Tryz.func27, Tryz.ntmps27
  go_wp2_with (first | ((with_reducible refine gate_dst (N := 10) rfl ?_); refine Kd.R_lit Kd.string _ 9 ?hg (N := 10) ?hd (xs := ([a2] : List ByteArray)) (inner := [.string a2]) (ok := fun _ => True) (okp := fun _ => True) ?hr ?hp (fun _ hk => hk) trivial (Below.refl _ _) (Nat.le_refl _) (by simp) ?_; (case hd => rfl); (case hg => rfl); (case hr => first | (go_simp; done) | (go_simp; rfl)); (case hp => exact (Reps.one (show Kd.M Kd.string _ _ _ a2 [.string a2] from rfl) (Reps.none _ _))); intro v111 w20 ho21 hb hg_ hnew_; clear hg_ hnew_; (first | rw [← Ny110.out] at ho21 | (simp only [Int.reduceToNat] at ho21; rw [← Ny110.out] at ho21)); have HO112 := aM (Kd.R_lower ho21 (below_size bB)); replace HB := aM (below_step bB hb); clear hb ho21; obtain ⟨Ao22, co22, eo22⟩ := Kd.R_slice HO112.out; subst eo22) | ((with_reducible refine gate_callee (f := 49) rfl ?_); refine goesL_ (some 11) rfl rfl Tryz.func49 (by kernel_rfl) rfl #[.int .i64 21, .string (⟨#[48, 49]⟩ : ByteArray), .slice Ao22 y110.length co22] rfl tL ?_; (with_reducible refine (G.mark_check.calls 21 (⟨#[48, 49]⟩ : ByteArray) _ _ y110 t113 _ ?side1 ?side2 ?side3 A4.out).mono ?_); (case side1 => repeat (first | exact (Kd.R_reads' HO112.out).2.2 | (with_reducible refine Kd.C_alloc ?_ _) | (with_reducible refine Kd.C_drewN ?_ _) | (with_reducible refine Kd.C_drew ?_))); (case side2 => exact (Kd.R_reads' HO112.out).2.1); (case side3 => exact tabs_below HT.out bB); rintro e w23 ⟨rfl, hb⟩; refine ⟨_, rfl, ?_⟩; replace HO112 := aM (Kd.R_below (vA HO112.out) hb); replace HB := aM (below_step bB hb); (try clear hb); (try clear hb2); (try clear hk); (try clear hi)))
  go_ret2; exact ⟨tE, bB⟩
end Go.Proofs.YtopmcoohdhlnaaaGreatDoor.Pb
/- Printed by a program of this session (print2.py). -/
namespace Go.Proofs.YtopmcoohdhlnaaaGreatDoor.Pb
open Go.RowKit Go.Proofs.YtopmcoohdhlnaaaGreatDoorW.PrintWords Go.Proofs.YtopmcoohdhlnaaaGreatDoorW.PrintLast Go.Proofs.YtopmcoohdhlnaaaGreatDoorW.PrintMore
attribute [local go_sem] max2_int min2_int max_two min_two max_three min_three max_four min_four   -- for this text's walks alone
set_option linter.unusedVariables false
set_option linter.unusedSimpArgs false
end Go.Proofs.YtopmcoohdhlnaaaGreatDoor.Pb
/- Printed by a program of this session (print2.py). -/
namespace Go.Proofs.YtopmcoohdhlnaaaGreatDoor.Pb
open Go.RowKit Go.Proofs.YtopmcoohdhlnaaaGreatDoorW.PrintWords Go.Proofs.YtopmcoohdhlnaaaGreatDoorW.PrintLast Go.Proofs.YtopmcoohdhlnaaaGreatDoorW.PrintMore
attribute [local go_sem] max2_int min2_int max_two min_two max_three min_three max_four min_four   -- for this text's walks alone
set_option linter.unusedVariables false
set_option linter.unusedSimpArgs false
end Go.Proofs.YtopmcoohdhlnaaaGreatDoor.Pb
namespace Go.Proofs.YtopmcoohdhlnaaaGreatDoor
open Go Go.Proofs Go.RowKit Go.Lib
theorem own : ownKnob Tryz.prog.godebug = none := by kernel_rfl
def laidL : List (String × DataW Unit) := [("unicode/utf8.acceptRanges", Rows.laid_unicode_utf8_acceptRanges), ("unicode/utf8.first", Rows.laid_unicode_utf8_first)]
theorem accept_eq : (Rows.laid_unicode_utf8_acceptRanges : DataW Unit) = Lib.acceptData := by kernel_rfl
theorem first_eq : Rows.laid_unicode_utf8_first = Lib.firstData := by kernel_rfl
theorem tabs_of_laid {W : World} (h : laidMetH Tryz.prog laidL W) : Lib.Utf8Tabs 1 2 W := by
 rw [MakeChecks.laidMetH_plain _ _ _ (by kernel_rfl)] at h; have h1 := Lib.laidMet.reads h (n := "unicode/utf8.acceptRanges") (.head _); have h2 := Lib.laidMet.reads h (n := "unicode/utf8.first") (.tail _ (.head _)); rw [accept_eq] at h1; rw [first_eq] at h2; exact utf8Tabs_of_reads (ρ := Tryz.lays260_ren) { Tryz.lays260 with } ⟨by kernel_rfl, by kernel_rfl, by kernel_rfl, by kernel_rfl, by kernel_rfl, by kernel_rfl, by kernel_rfl⟩ h2 h1
/-- A start: the settled world, with both tables as their initialisers lay them. -/
noncomputable def laidWorld (os : Os) : World :=
 let w0 := World.holding Tryz.prog os ⟨#[], #[], []⟩
 let put (h : Array Obj) (g : Nat) (cs : Array Value) : Array Obj := h.modify g fun
  | .cells _ t frozen => .cells cs t frozen
  | o => o
 let h1 := put w0.heap 1 (Lib.firstTab.map fun z => Value.int .u8 z).toArray
 let h2 := put h1 2 ((List.range 16).flatMap fun i => [Value.int .u8 (Lib.accLo i), Value.int .u8 (Lib.accHi i)]).toArray
 { w0 with heap := h2 }
theorem laid_shaped (os : Os) (args : Array Value) : ((laidWorld os).forCall (fun _ _ => 0) ⟨#[], args, []⟩).Shaped Tryz.prog := World.shaped_of_RefB (by kernel_rfl) (by kernel_rfl)
theorem laid_met (os : Os) (args : Array Value) : laidMetH Tryz.prog laidL ((laidWorld os).forCall (fun _ _ => 0) ⟨#[], args, []⟩).memory :=
 laidMetH_of_parts3 (fuel := 8) (laidMet_of_run' 8 (by kernel_rfl) (by kernel_rfl)) (by kernel_rfl) (by kernel_rfl)
end Go.Proofs.YtopmcoohdhlnaaaGreatDoor
