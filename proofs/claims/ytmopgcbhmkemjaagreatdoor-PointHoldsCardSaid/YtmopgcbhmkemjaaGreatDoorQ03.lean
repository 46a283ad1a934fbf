/- DERIVED: THE SHELF's CONTRACTS AT THIS DUMP, IN PLAIN WORDS (tools/lay-plain.mjs out of 'TryzShelf.lean', which tools/lay-shelf.mjs wrote): THE SAME DECLARATIONS UNDER THE SAME NAMES: 'import', 'namespace', 'open', 'def', 'theorem' AND NOTHING ELSE: no command of the shelf's: FOR A HAND-IN. Each laying: the table of numbers ('.._ren') and one theorem, a field a fact of the dump's own or the kernel's comparison; each contract: ONE APPLICATION. The highest bit of a magnitude: slices.Backward's contract, and the walk over it. The place behind a magnitude's highest bit. limb: the quotient of magnitudes, and what is left. limb: a sum that is too great; differences; the greatest common divisor. The end of a function that defers limb.caught. limb: quotients. ratio: what is given up with; the Int of a wide number. ratio: the Rat of two wide numbers. limb: the greatest common divisor of what may not be. limb: the greatest common divisor. The equality of Ints, of Rats. ratio: which Rats there are; small helpers. ratio: Check; small helpers. ratio: some Rats that all may be. Rationals: their numerators and denominators in words; plain. ratio: what is given up with is caught; Make. ratio: the Rat of two wide numbers, or that it is too great. -/
import Derived.Shelf.Small.Bits
import Derived.Shelf.Strconv.Itoa0
import Derived.Shelf.Strings.Search1
import Derived.Shelf.Strings.Search2
import Derived.Shelf.Strings.Cut
import Derived.Shelf.LaysM
import Derived.Shelf.Strings.Shaped
import Derived.Shelf.Bits.Mul64
import Derived.Test.YtmopgcbhmkemjaaGreatDoorProg
import Derived.Test.YtmopgcbhmkemjaaGreatDoorQ02
import Derived.RangeFuncNested
import Derived.RangeFuncBound
import Derived.RangeFuncCalls
import Derived.RangeFuncLeaves
import Derived.RangeFuncBox
import Derived.Shelf.Abstract
import Derived.WalkKit
import Derived.OwnWalkIn
import Derived.TacticsInMore
import Derived.LoopNIn
import Derived.LoopIn
import Derived.Deep.RegionWith
import Derived.Test.YtmopgcbhmkemjaaGreatDoorQ01
namespace Go.Proofs
open Go.Shelf
def Tryz.lays128_ren : Go.Shelf.Ren := ⟨fun | 128 => 141 | n => n, fun | 51 => 193 | 3 => 3 | 4 => 4 | 46 => 155 | 5 => 5 | 9 => 9 | n => n, fun | n => n⟩
theorem Tryz.lays128 : Go.Proofs.Lays.n128 Tryz.prog Tryz.lays128_ren := {
  mixed := by kernel_rfl
  f128 := Tryz.func141.trans (congrArg some (by kernel_rfl))
  t3 := Tryz.underlying3
  a3 := Tryz.isAgg3
  z3 := Tryz.sizeOf3
  v3 := Tryz.zeroValue3
  t4 := Tryz.underlying4
  a4 := Tryz.isAgg4
  z4 := Tryz.sizeOf4
  v4 := Tryz.zeroValue4
  t5 := Tryz.underlying5
  a5 := Tryz.isAgg5
  z5 := Tryz.sizeOf5
  v5 := Tryz.zeroValue5
  t9 := Tryz.underlying9
  a9 := Tryz.isAgg9
  z9 := Tryz.sizeOf9
  v9 := Tryz.zeroValue9
  t46 := Tryz.underlying155
  a46 := Tryz.isAgg155
  z46 := Tryz.sizeOf155
  v46 := Tryz.zeroValue155
  t51 := Tryz.underlying193
  a51 := Tryz.isAgg193
  z51 := Tryz.sizeOf193
  v51 := Tryz.zeroValue193 }
/-- bits.Len32: "Len32 returns the minimum number of bits required to represent x; the result is 0 for x == 0.": IT RETURNS 'Lib.bitLen x'; the world is as it was. ('h0', 'h1': x is a uint32.) (LAID: no walk: one application.) -/
theorem Tryz.bits_Len32 (x : Int) (w : World) (h0 : 0 ≤ x) (h1 : x ≤ 4294967295) :
    Calls Tryz.prog 141 #[.int .u32 x] w fun e w' => e = .returned (.int .i64 (Lib.bitLen x.toNat)) ∧ w' = w := Any.bits_Len32 Tryz.lays128 x w h0 h1
def Tryz.lays125_ren : Go.Shelf.Ren := ⟨fun | 125 => 100 | 128 => 141 | 129 => 142 | n => n, fun | 46 => 155 | 3 => 3 | 51 => 193 | 53 => 24 | 4 => 4 | 5 => 5 | 9 => 9 | n => n, fun | n => n⟩
theorem Tryz.lays125 : Go.Proofs.Lays.n125 Tryz.prog Tryz.lays125_ren := {
  mixed := by kernel_rfl
  f125 := Tryz.func100.trans (congrArg some (by kernel_rfl))
  f128 := Tryz.func141.trans (congrArg some (by kernel_rfl))
  f129 := Tryz.func142.trans (congrArg some (by kernel_rfl))
  t3 := Tryz.underlying3
  a3 := Tryz.isAgg3
  z3 := Tryz.sizeOf3
  v3 := Tryz.zeroValue3
  t4 := Tryz.underlying4
  a4 := Tryz.isAgg4
  z4 := Tryz.sizeOf4
  v4 := Tryz.zeroValue4
  t5 := Tryz.underlying5
  a5 := Tryz.isAgg5
  z5 := Tryz.sizeOf5
  v5 := Tryz.zeroValue5
  t9 := Tryz.underlying9
  a9 := Tryz.isAgg9
  z9 := Tryz.sizeOf9
  v9 := Tryz.zeroValue9
  t46 := Tryz.underlying155
  a46 := Tryz.isAgg155
  z46 := Tryz.sizeOf155
  v46 := Tryz.zeroValue155
  t51 := Tryz.underlying193
  a51 := Tryz.isAgg193
  z51 := Tryz.sizeOf193
  v51 := Tryz.zeroValue193
  t53 := Tryz.underlying24
  a53 := Tryz.isAgg24
  z53 := Tryz.sizeOf24
  v53 := Tryz.zeroValue24 }
/-- bits.Len: "Len returns the minimum number of bits required to represent x; the result is 0 for x == 0.": IT RETURNS 'Lib.bitLen x'; the world is as it was. (A uint has 64 bits in the model.) ITS CALLEE bits.Len64 IS MET BY ITS OWN CONTRACT OFF THE SHELF (lay that first). (LAID: no walk: one application.) -/
theorem Tryz.bits_Len (x : Int) (w : World) (h0 : 0 ≤ x) (h1 : x ≤ 18446744073709551615) :
    Calls Tryz.prog 100 #[.int .u64 x] w fun e w' => e = .returned (.int .i64 (Lib.bitLen x.toNat)) ∧ w' = w := Any.bits_Len Tryz.lays125 x w h0 h1
def Tryz.lays129_ren : Go.Shelf.Ren := ⟨fun | 129 => 142 | n => n, fun | 53 => 24 | 3 => 3 | 4 => 4 | 46 => 155 | 5 => 5 | 9 => 9 | n => n, fun | n => n⟩
theorem Tryz.lays129 : Go.Proofs.Lays.n129 Tryz.prog Tryz.lays129_ren := {
  mixed := by kernel_rfl
  f129 := Tryz.func142.trans (congrArg some (by kernel_rfl))
  t3 := Tryz.underlying3
  a3 := Tryz.isAgg3
  z3 := Tryz.sizeOf3
  v3 := Tryz.zeroValue3
  t4 := Tryz.underlying4
  a4 := Tryz.isAgg4
  z4 := Tryz.sizeOf4
  v4 := Tryz.zeroValue4
  t5 := Tryz.underlying5
  a5 := Tryz.isAgg5
  z5 := Tryz.sizeOf5
  v5 := Tryz.zeroValue5
  t9 := Tryz.underlying9
  a9 := Tryz.isAgg9
  z9 := Tryz.sizeOf9
  v9 := Tryz.zeroValue9
  t46 := Tryz.underlying155
  a46 := Tryz.isAgg155
  z46 := Tryz.sizeOf155
  v46 := Tryz.zeroValue155
  t53 := Tryz.underlying24
  a53 := Tryz.isAgg24
  z53 := Tryz.sizeOf24
  v53 := Tryz.zeroValue24 }
/-- bits.Len64: "Len64 returns the minimum number of bits required to represent x; the result is 0 for x == 0.": IT RETURNS 'Lib.bitLen x'; the world is as it was. ('h0', 'h1': x is a uint64.) (LAID: no walk: one application.) -/
theorem Tryz.bits_Len64 (x : Int) (w : World) (h0 : 0 ≤ x) (h1 : x ≤ 18446744073709551615) :
    Calls Tryz.prog 142 #[.int .u64 x] w fun e w' => e = .returned (.int .i64 (Lib.bitLen x.toNat)) ∧ w' = w := Any.bits_Len64 Tryz.lays129 x w h0 h1
def Tryz.lays217_ren : Go.Shelf.Ren := ⟨fun | 217 => 166 | 266 => 175 | n => n, fun | 9 => 9 | 5 => 5 | 3 => 3 | n => n, fun | n => n⟩
theorem Tryz.lays217 : Go.Proofs.Lays.n217 Tryz.prog Tryz.lays217_ren := {
  mixed := by kernel_rfl
  f217 := Tryz.func166.trans (congrArg some (by kernel_rfl))
  f266 := Tryz.func175.trans (congrArg some (by kernel_rfl))
  t3 := Tryz.underlying3
  a3 := Tryz.isAgg3
  z3 := Tryz.sizeOf3
  v3 := Tryz.zeroValue3
  t5 := Tryz.underlying5
  a5 := Tryz.isAgg5
  z5 := Tryz.sizeOf5
  v5 := Tryz.zeroValue5
  t9 := Tryz.underlying9
  a9 := Tryz.isAgg9
  z9 := Tryz.sizeOf9
  v9 := Tryz.zeroValue9 }
open Go.RowKit Go.Lib in
/-- internal/stringslite.IndexByte (what strings.IndexByte calls): IT RETURNS 'Lib.indexByte s c'; the world is as it was. (LAID: no walk: one application.) -/
theorem Tryz.stringslite_IndexByte (s : ByteArray) (c : Int) (w : World) :
    Calls Tryz.prog 166 #[.string s, .int .u8 c] w fun e w' => e = .returned (.int .i64 (Lib.indexByte s.data.toList c.toNat.toUInt8)) ∧ w' = w := Any.stringslite_IndexByte Tryz.lays217 s c w
def Tryz.lays224_ren : Go.Shelf.Ren := ⟨fun | 224 => 168 | n => n, fun | 3 => 3 | n => n, fun | n => n⟩
theorem Tryz.lays224 : Go.Proofs.Lays.n224 Tryz.prog Tryz.lays224_ren := {
  mixed := by kernel_rfl
  f224 := Tryz.func168.trans (congrArg some (by kernel_rfl))
  t3 := Tryz.underlying3
  a3 := Tryz.isAgg3
  z3 := Tryz.sizeOf3
  v3 := Tryz.zeroValue3 }
open Go.RowKit Go.Lib in
/-- internal/bytealg.Cutover: "Cutover reports the number of failures of IndexByte we should tolerate before switching over to Index. n is the number of bytes processed so far.": on amd64: (n + 16) / 8. (LAID: no walk: one application.) -/
theorem Tryz.bytealg_Cutover (n : Int) (h0 : 0 ≤ n) (h1 : n < 4611686018427387904) (w : World) :
    Calls Tryz.prog 168 #[.int .i64 n] w fun e w' => e = .returned (.int .i64 ((n + 16) / 8)) ∧ w' = w := Any.bytealg_Cutover Tryz.lays224 n h0 h1 w
def Tryz.lays314_ren : Go.Shelf.Ren := ⟨fun | 314 => 176 | n => n, fun | 9 => 9 | 51 => 193 | 3 => 3 | 4 => 4 | 5 => 5 | 46 => 155 | n => n, fun | n => n⟩
theorem Tryz.lays314 : Go.Proofs.Lays.n314 Tryz.prog Tryz.lays314_ren := {
  mixed := by kernel_rfl
  f314 := Tryz.func176.trans (congrArg some (by kernel_rfl))
  t3 := Tryz.underlying3
  a3 := Tryz.isAgg3
  z3 := Tryz.sizeOf3
  v3 := Tryz.zeroValue3
  t4 := Tryz.underlying4
  a4 := Tryz.isAgg4
  z4 := Tryz.sizeOf4
  v4 := Tryz.zeroValue4
  t5 := Tryz.underlying5
  a5 := Tryz.isAgg5
  z5 := Tryz.sizeOf5
  v5 := Tryz.zeroValue5
  t9 := Tryz.underlying9
  a9 := Tryz.isAgg9
  z9 := Tryz.sizeOf9
  v9 := Tryz.zeroValue9
  t46 := Tryz.underlying155
  a46 := Tryz.isAgg155
  z46 := Tryz.sizeOf155
  v46 := Tryz.zeroValue155
  t51 := Tryz.underlying193
  a51 := Tryz.isAgg193
  z51 := Tryz.sizeOf193
  v51 := Tryz.zeroValue193 }
open Go.RowKit Go.Lib in
/-- hashStr: "returns the hash and the appropriate multiplicative factor for use in Rabin-Karp algorithm": THE HASH OF ALL OF sep, AND 16777619 ^ len(sep), both in uint32. (LAID: no walk: one application.) -/
theorem Tryz.bytealg_hashStr (sep : ByteArray) (hs : sep.size < 4294967281) (w : World) :
    Calls Tryz.prog 176 #[.string sep] w fun e w' => e = .returned (.tuple #[.int .u32 (RK.H sep.data.toList % 4294967296), .int .u32 (16777619 ^ sep.size % 4294967296)]) ∧ w' = w := Any.bytealg_hashStr Tryz.lays314 sep hs w
def Tryz.lays267_ren : Go.Shelf.Ren := ⟨fun | 267 => 169 | 314 => 176 | n => n, fun | 9 => 9 | 3 => 3 | 146 => 229 | 51 => 193 | 4 => 4 | 5 => 5 | 46 => 155 | n => n, fun | n => n⟩
theorem Tryz.lays267 : Go.Proofs.Lays.n267 Tryz.prog Tryz.lays267_ren := {
  mixed := by kernel_rfl
  f267 := Tryz.func169.trans (congrArg some (by kernel_rfl))
  f314 := Tryz.func176.trans (congrArg some (by kernel_rfl))
  t3 := Tryz.underlying3
  a3 := Tryz.isAgg3
  z3 := Tryz.sizeOf3
  v3 := Tryz.zeroValue3
  t4 := Tryz.underlying4
  a4 := Tryz.isAgg4
  z4 := Tryz.sizeOf4
  v4 := Tryz.zeroValue4
  t5 := Tryz.underlying5
  a5 := Tryz.isAgg5
  z5 := Tryz.sizeOf5
  v5 := Tryz.zeroValue5
  t9 := Tryz.underlying9
  a9 := Tryz.isAgg9
  z9 := Tryz.sizeOf9
  v9 := Tryz.zeroValue9
  t46 := Tryz.underlying155
  a46 := Tryz.isAgg155
  z46 := Tryz.sizeOf155
  v46 := Tryz.zeroValue155
  t51 := Tryz.underlying193
  a51 := Tryz.isAgg193
  z51 := Tryz.sizeOf193
  v51 := Tryz.zeroValue193
  t146 := Tryz.underlying229
  a146 := Tryz.isAgg229
  z146 := Tryz.sizeOf229
  v146 := Tryz.zeroValue229 }
open Go.RowKit Go.Lib in
theorem Tryz.bytealg_IndexRabinKarp (s sep : ByteArray) (h1 : 1 ≤ sep.size) (h2 : sep.size ≤ s.size) (hs : s.size < 4294967281) (w : World) :
    Calls Tryz.prog 169 #[.string s, .string sep] w fun e w' => e = .returned (.int .i64 (Lib.index s.data.toList sep.data.toList)) ∧ w' = w := Any.bytealg_IndexRabinKarp Tryz.lays267 s sep h1 h2 hs w
def Tryz.lays219_ren : Go.Shelf.Ren := ⟨fun | 219 => 154 | 217 => 166 | 225 => 167 | 224 => 168 | 267 => 169 | 266 => 175 | 314 => 176 | n => n, fun | 9 => 9 | 3 => 3 | 4 => 4 | 5 => 5 | 46 => 155 | 146 => 229 | 51 => 193 | n => n, fun | 1 => 0 | n => n⟩
theorem Tryz.lays219 : Go.Proofs.Lays.n219 Tryz.prog Tryz.lays219_ren := {
  mixed := by kernel_rfl
  f217 := Tryz.func166.trans (congrArg some (by kernel_rfl))
  f219 := Tryz.func154.trans (congrArg some (by kernel_rfl))
  f224 := Tryz.func168.trans (congrArg some (by kernel_rfl))
  f225 := Tryz.func167.trans (congrArg some (by kernel_rfl))
  f266 := Tryz.func175.trans (congrArg some (by kernel_rfl))
  f267 := Tryz.func169.trans (congrArg some (by kernel_rfl))
  f314 := Tryz.func176.trans (congrArg some (by kernel_rfl))
  t3 := Tryz.underlying3
  a3 := Tryz.isAgg3
  z3 := Tryz.sizeOf3
  v3 := Tryz.zeroValue3
  t4 := Tryz.underlying4
  a4 := Tryz.isAgg4
  z4 := Tryz.sizeOf4
  v4 := Tryz.zeroValue4
  t5 := Tryz.underlying5
  a5 := Tryz.isAgg5
  z5 := Tryz.sizeOf5
  v5 := Tryz.zeroValue5
  t9 := Tryz.underlying9
  a9 := Tryz.isAgg9
  z9 := Tryz.sizeOf9
  v9 := Tryz.zeroValue9
  t46 := Tryz.underlying155
  a46 := Tryz.isAgg155
  z46 := Tryz.sizeOf155
  v46 := Tryz.zeroValue155
  t51 := Tryz.underlying193
  a51 := Tryz.isAgg193
  z51 := Tryz.sizeOf193
  v51 := Tryz.zeroValue193
  t146 := Tryz.underlying229
  a146 := Tryz.isAgg229
  z146 := Tryz.sizeOf229
  v146 := Tryz.zeroValue229
  g1 := by kernel_rfl }
open Go.RowKit Go.Lib in
/-- internal/stringslite.Index (what strings.Index calls) AT A substr OF ONE BYTE c: IT RETURNS 'Lib.indexByte s c'; the world is as it was. (LAID: no walk: one application.) -/
theorem Tryz.stringslite_Index_one (s : ByteArray) (c : UInt8) (w : World) :
    Calls Tryz.prog 154 #[.string s, .string ⟨#[c]⟩] w fun e w' => e = .returned (.int .i64 (Lib.indexByte s.data.toList c)) ∧ w' = w := Any.stringslite_Index_one Tryz.lays219 s c w
open Go.RowKit Go.Lib in
/-- internal/stringslite.Index (what strings.Index calls) AT A substr OF WHATEVER LENGTH: IT RETURNS 'Lib.index s substr'; the world is as it was. 'm': what internal/bytealg.MaxLen holds: whatever. (LAID: no walk: one application.) -/
theorem Tryz.stringslite_Index (s sub : ByteArray) (m : Int) (w : World) (hs : s.size < 4294967281) (hm : w.cell? ⟨0, 0, none⟩ = some (.int .i64 m)) :
    Calls Tryz.prog 154 #[.string s, .string sub] w fun e w' => e = .returned (.int .i64 (Lib.index s.data.toList sub.data.toList)) ∧ w' = w := Any.stringslite_Index Tryz.lays219 s sub m w hs hm
def Tryz.lays220_ren : Go.Shelf.Ren := ⟨fun | 220 => 123 | 219 => 154 | 217 => 166 | 225 => 167 | 224 => 168 | 267 => 169 | 266 => 175 | 314 => 176 | n => n, fun | 9 => 9 | 4 => 4 | 3 => 3 | 5 => 5 | 46 => 155 | 146 => 229 | 51 => 193 | n => n, fun | 1 => 0 | n => n⟩
theorem Tryz.lays220 : Go.Proofs.Lays.n220 Tryz.prog Tryz.lays220_ren := {
  mixed := by kernel_rfl
  f217 := Tryz.func166.trans (congrArg some (by kernel_rfl))
  f219 := Tryz.func154.trans (congrArg some (by kernel_rfl))
  f220 := Tryz.func123.trans (congrArg some (by kernel_rfl))
  f224 := Tryz.func168.trans (congrArg some (by kernel_rfl))
  f225 := Tryz.func167.trans (congrArg some (by kernel_rfl))
  f266 := Tryz.func175.trans (congrArg some (by kernel_rfl))
  f267 := Tryz.func169.trans (congrArg some (by kernel_rfl))
  f314 := Tryz.func176.trans (congrArg some (by kernel_rfl))
  t3 := Tryz.underlying3
  a3 := Tryz.isAgg3
  z3 := Tryz.sizeOf3
  v3 := Tryz.zeroValue3
  t4 := Tryz.underlying4
  a4 := Tryz.isAgg4
  z4 := Tryz.sizeOf4
  v4 := Tryz.zeroValue4
  t5 := Tryz.underlying5
  a5 := Tryz.isAgg5
  z5 := Tryz.sizeOf5
  v5 := Tryz.zeroValue5
  t9 := Tryz.underlying9
  a9 := Tryz.isAgg9
  z9 := Tryz.sizeOf9
  v9 := Tryz.zeroValue9
  t46 := Tryz.underlying155
  a46 := Tryz.isAgg155
  z46 := Tryz.sizeOf155
  v46 := Tryz.zeroValue155
  t51 := Tryz.underlying193
  a51 := Tryz.isAgg193
  z51 := Tryz.sizeOf193
  v51 := Tryz.zeroValue193
  t146 := Tryz.underlying229
  a146 := Tryz.isAgg229
  z146 := Tryz.sizeOf229
  v146 := Tryz.zeroValue229
  g1 := by kernel_rfl }
open Go.RowKit Go.Lib in
/-- internal/stringslite.Cut (what strings.Cut calls): IT RETURNS 'Lib.cut s sep'; the world is as it was but for the count of draws. (LAID: no walk: one application.) -/
theorem Tryz.stringslite_Cut (s sep : ByteArray) (m : Int) (w : World) (hs : s.size < 4294967281) (hm : w.cell? ⟨0, 0, none⟩ = some (.int .i64 m)) :
    Calls Tryz.prog 123 #[.string s, .string sep] w fun e w' => e = .returned (.tuple #[.string ⟨(Lib.cut s.data.toList sep.data.toList).1.toArray⟩, .string ⟨(Lib.cut s.data.toList sep.data.toList).2.1.toArray⟩, .bool (Lib.cut s.data.toList sep.data.toList).2.2]) ∧ ∃ n, w' = w.drewN n := Any.stringslite_Cut Tryz.lays220 s sep m w hs hm
def Tryz.lays145_ren : Go.Shelf.Ren := ⟨fun | 145 => 95 | 220 => 123 | 219 => 154 | 217 => 166 | 225 => 167 | 224 => 168 | 267 => 169 | 266 => 175 | 314 => 176 | n => n, fun | 9 => 9 | 4 => 4 | 59 => 143 | 3 => 3 | 5 => 5 | 46 => 155 | 146 => 229 | 51 => 193 | n => n, fun | 1 => 0 | n => n⟩
theorem Tryz.lays145 : Go.Proofs.Lays.n145 Tryz.prog Tryz.lays145_ren := {
  mixed := by kernel_rfl
  f145 := Tryz.func95.trans (congrArg some (by kernel_rfl))
  f217 := Tryz.func166.trans (congrArg some (by kernel_rfl))
  f219 := Tryz.func154.trans (congrArg some (by kernel_rfl))
  f220 := Tryz.func123.trans (congrArg some (by kernel_rfl))
  f224 := Tryz.func168.trans (congrArg some (by kernel_rfl))
  f225 := Tryz.func167.trans (congrArg some (by kernel_rfl))
  f266 := Tryz.func175.trans (congrArg some (by kernel_rfl))
  f267 := Tryz.func169.trans (congrArg some (by kernel_rfl))
  f314 := Tryz.func176.trans (congrArg some (by kernel_rfl))
  t3 := Tryz.underlying3
  a3 := Tryz.isAgg3
  z3 := Tryz.sizeOf3
  v3 := Tryz.zeroValue3
  t4 := Tryz.underlying4
  a4 := Tryz.isAgg4
  z4 := Tryz.sizeOf4
  v4 := Tryz.zeroValue4
  t5 := Tryz.underlying5
  a5 := Tryz.isAgg5
  z5 := Tryz.sizeOf5
  v5 := Tryz.zeroValue5
  t9 := Tryz.underlying9
  a9 := Tryz.isAgg9
  z9 := Tryz.sizeOf9
  v9 := Tryz.zeroValue9
  t46 := Tryz.underlying155
  a46 := Tryz.isAgg155
  z46 := Tryz.sizeOf155
  v46 := Tryz.zeroValue155
  t51 := Tryz.underlying193
  a51 := Tryz.isAgg193
  z51 := Tryz.sizeOf193
  v51 := Tryz.zeroValue193
  t59 := Tryz.underlying143
  a59 := Tryz.isAgg143
  z59 := Tryz.sizeOf143
  v59 := Tryz.zeroValue143
  t146 := Tryz.underlying229
  a146 := Tryz.isAgg229
  z146 := Tryz.sizeOf229
  v146 := Tryz.zeroValue229
  g1 := by kernel_rfl }
open Go.RowKit Go.Lib in
/-- strings.Cut: "Cut slices s around the first instance of sep, returning the text before and after sep. The found result reports whether sep appears in s. If sep does not appear in s, cut returns s, "", false.": IT RETURNS 'Lib.cut s sep'; the world is as it was but for the count of draws. (LAID: no walk: one application.) -/
theorem Tryz.strings_Cut (s sep : ByteArray) (m : Int) (w : World) (hs : s.size < 4294967281) (hm : w.cell? ⟨0, 0, none⟩ = some (.int .i64 m)) :
    Calls Tryz.prog 95 #[.string s, .string sep] w fun e w' => e = .returned (.tuple #[.string ⟨(Lib.cut s.data.toList sep.data.toList).1.toArray⟩, .string ⟨(Lib.cut s.data.toList sep.data.toList).2.1.toArray⟩, .bool (Lib.cut s.data.toList sep.data.toList).2.2]) ∧ ∃ n, w' = w.drewN n := Any.strings_Cut Tryz.lays145 s sep m w hs hm
def Tryz.laysM219_ren : Go.Shelf.Ren := ⟨fun | 219 => 154 | 217 => 166 | 225 => 167 | 224 => 168 | 267 => 169 | 266 => 175 | 314 => 176 | n => n, fun | 9 => 9 | 3 => 3 | 4 => 4 | 5 => 5 | 46 => 155 | 146 => 229 | 51 => 193 | n => n, fun | 1 => 0 | n => n⟩
theorem Tryz.laysM219 : Go.Proofs.LaysM.n219 Tryz.prog Tryz.laysM219_ren := {
  mixed := by kernel_rfl
  f217 := Tryz.func166.trans (congrArg some (by kernel_rfl))
  f219 := Tryz.func154.trans (congrArg some (by kernel_rfl))
  f224 := Tryz.func168.trans (congrArg some (by kernel_rfl))
  f225 := Tryz.func167.trans (congrArg some (by kernel_rfl))
  f266 := Tryz.func175.trans (congrArg some (by kernel_rfl))
  f267 := Tryz.func169.trans (congrArg some (by kernel_rfl))
  f314 := Tryz.func176.trans (congrArg some (by kernel_rfl))
  t3 := Tryz.underlying3
  a3 := Tryz.isAgg3
  z3 := Tryz.sizeOf3
  v3 := Tryz.zeroValue3
  t4 := Tryz.underlying4
  a4 := Tryz.isAgg4
  z4 := Tryz.sizeOf4
  v4 := Tryz.zeroValue4
  t5 := Tryz.underlying5
  a5 := Tryz.isAgg5
  z5 := Tryz.sizeOf5
  v5 := Tryz.zeroValue5
  t9 := Tryz.underlying9
  a9 := Tryz.isAgg9
  z9 := Tryz.sizeOf9
  v9 := Tryz.zeroValue9
  t46 := Tryz.underlying155
  a46 := Tryz.isAgg155
  z46 := Tryz.sizeOf155
  v46 := Tryz.zeroValue155
  t51 := Tryz.underlying193
  a51 := Tryz.isAgg193
  z51 := Tryz.sizeOf193
  v51 := Tryz.zeroValue193
  t146 := Tryz.underlying229
  a146 := Tryz.isAgg229
  z146 := Tryz.sizeOf229
  v146 := Tryz.zeroValue229
  g1 := by kernel_rfl
  i3 := by kernel_rfl
  i4 := by kernel_rfl
  i5 := by kernel_rfl
  i9 := by kernel_rfl
  i46 := by kernel_rfl
  i51 := by kernel_rfl
  i146 := by kernel_rfl
  m1 := by kernel_rfl
  s1_3 := fun w h => Go.Proofs.cell_of_shapedOpen_int (zero := #[.int .i64 0]) (t := 3) h (of_decide_eq_true (by kernel_rfl)) (by kernel_rfl) rfl (by kernel_rfl) (by kernel_rfl) Tryz.underlying3 }
open Go.RowKit Go.Lib in
theorem Tryz.stringslite_Index_shaped (s sub : ByteArray) (w : World) (h : w.ShapedOpen Tryz.prog) (hs : s.size < 4294967281) :
    Calls Tryz.prog 154 #[.string s, .string sub] w fun e w' => e = .returned (.int .i64 (Lib.index s.data.toList sub.data.toList)) ∧ w' = w := Any.stringslite_Index_shaped Tryz.laysM219 s sub w h hs
def Tryz.laysM220_ren : Go.Shelf.Ren := ⟨fun | 220 => 123 | 219 => 154 | 217 => 166 | 225 => 167 | 224 => 168 | 267 => 169 | 266 => 175 | 314 => 176 | n => n, fun | 9 => 9 | 4 => 4 | 3 => 3 | 5 => 5 | 46 => 155 | 146 => 229 | 51 => 193 | n => n, fun | 1 => 0 | n => n⟩
theorem Tryz.laysM220 : Go.Proofs.LaysM.n220 Tryz.prog Tryz.laysM220_ren := {
  mixed := by kernel_rfl
  f217 := Tryz.func166.trans (congrArg some (by kernel_rfl))
  f219 := Tryz.func154.trans (congrArg some (by kernel_rfl))
  f220 := Tryz.func123.trans (congrArg some (by kernel_rfl))
  f224 := Tryz.func168.trans (congrArg some (by kernel_rfl))
  f225 := Tryz.func167.trans (congrArg some (by kernel_rfl))
  f266 := Tryz.func175.trans (congrArg some (by kernel_rfl))
  f267 := Tryz.func169.trans (congrArg some (by kernel_rfl))
  f314 := Tryz.func176.trans (congrArg some (by kernel_rfl))
  t3 := Tryz.underlying3
  a3 := Tryz.isAgg3
  z3 := Tryz.sizeOf3
  v3 := Tryz.zeroValue3
  t4 := Tryz.underlying4
  a4 := Tryz.isAgg4
  z4 := Tryz.sizeOf4
  v4 := Tryz.zeroValue4
  t5 := Tryz.underlying5
  a5 := Tryz.isAgg5
  z5 := Tryz.sizeOf5
  v5 := Tryz.zeroValue5
  t9 := Tryz.underlying9
  a9 := Tryz.isAgg9
  z9 := Tryz.sizeOf9
  v9 := Tryz.zeroValue9
  t46 := Tryz.underlying155
  a46 := Tryz.isAgg155
  z46 := Tryz.sizeOf155
  v46 := Tryz.zeroValue155
  t51 := Tryz.underlying193
  a51 := Tryz.isAgg193
  z51 := Tryz.sizeOf193
  v51 := Tryz.zeroValue193
  t146 := Tryz.underlying229
  a146 := Tryz.isAgg229
  z146 := Tryz.sizeOf229
  v146 := Tryz.zeroValue229
  g1 := by kernel_rfl
  i3 := by kernel_rfl
  i4 := by kernel_rfl
  i5 := by kernel_rfl
  i9 := by kernel_rfl
  i46 := by kernel_rfl
  i51 := by kernel_rfl
  i146 := by kernel_rfl
  m1 := by kernel_rfl
  s1_3 := fun w h => Go.Proofs.cell_of_shapedOpen_int (zero := #[.int .i64 0]) (t := 3) h (of_decide_eq_true (by kernel_rfl)) (by kernel_rfl) rfl (by kernel_rfl) (by kernel_rfl) Tryz.underlying3 }
open Go.RowKit Go.Lib in
theorem Tryz.stringslite_Cut_shaped (s sep : ByteArray) (w : World) (h : w.ShapedOpen Tryz.prog) (hs : s.size < 4294967281) :
    Calls Tryz.prog 123 #[.string s, .string sep] w fun e w' => e = .returned (.tuple #[.string ⟨(Lib.cut s.data.toList sep.data.toList).1.toArray⟩, .string ⟨(Lib.cut s.data.toList sep.data.toList).2.1.toArray⟩, .bool (Lib.cut s.data.toList sep.data.toList).2.2]) ∧ ∃ n, w' = w.drewN n := Any.stringslite_Cut_shaped Tryz.laysM220 s sep w h hs
def Tryz.laysM145_ren : Go.Shelf.Ren := ⟨fun | 145 => 95 | 220 => 123 | 219 => 154 | 217 => 166 | 225 => 167 | 224 => 168 | 267 => 169 | 266 => 175 | 314 => 176 | n => n, fun | 9 => 9 | 4 => 4 | 59 => 143 | 3 => 3 | 5 => 5 | 46 => 155 | 146 => 229 | 51 => 193 | n => n, fun | 1 => 0 | n => n⟩
theorem Tryz.laysM145 : Go.Proofs.LaysM.n145 Tryz.prog Tryz.laysM145_ren := {
  mixed := by kernel_rfl
  f145 := Tryz.func95.trans (congrArg some (by kernel_rfl))
  f217 := Tryz.func166.trans (congrArg some (by kernel_rfl))
  f219 := Tryz.func154.trans (congrArg some (by kernel_rfl))
  f220 := Tryz.func123.trans (congrArg some (by kernel_rfl))
  f224 := Tryz.func168.trans (congrArg some (by kernel_rfl))
  f225 := Tryz.func167.trans (congrArg some (by kernel_rfl))
  f266 := Tryz.func175.trans (congrArg some (by kernel_rfl))
  f267 := Tryz.func169.trans (congrArg some (by kernel_rfl))
  f314 := Tryz.func176.trans (congrArg some (by kernel_rfl))
  t3 := Tryz.underlying3
  a3 := Tryz.isAgg3
  z3 := Tryz.sizeOf3
  v3 := Tryz.zeroValue3
  t4 := Tryz.underlying4
  a4 := Tryz.isAgg4
  z4 := Tryz.sizeOf4
  v4 := Tryz.zeroValue4
  t5 := Tryz.underlying5
  a5 := Tryz.isAgg5
  z5 := Tryz.sizeOf5
  v5 := Tryz.zeroValue5
  t9 := Tryz.underlying9
  a9 := Tryz.isAgg9
  z9 := Tryz.sizeOf9
  v9 := Tryz.zeroValue9
  t46 := Tryz.underlying155
  a46 := Tryz.isAgg155
  z46 := Tryz.sizeOf155
  v46 := Tryz.zeroValue155
  t51 := Tryz.underlying193
  a51 := Tryz.isAgg193
  z51 := Tryz.sizeOf193
  v51 := Tryz.zeroValue193
  t59 := Tryz.underlying143
  a59 := Tryz.isAgg143
  z59 := Tryz.sizeOf143
  v59 := Tryz.zeroValue143
  t146 := Tryz.underlying229
  a146 := Tryz.isAgg229
  z146 := Tryz.sizeOf229
  v146 := Tryz.zeroValue229
  g1 := by kernel_rfl
  i3 := by kernel_rfl
  i4 := by kernel_rfl
  i5 := by kernel_rfl
  i9 := by kernel_rfl
  i46 := by kernel_rfl
  i51 := by kernel_rfl
  i59 := by kernel_rfl
  i146 := by kernel_rfl
  m1 := by kernel_rfl
  s1_3 := fun w h => Go.Proofs.cell_of_shapedOpen_int (zero := #[.int .i64 0]) (t := 3) h (of_decide_eq_true (by kernel_rfl)) (by kernel_rfl) rfl (by kernel_rfl) (by kernel_rfl) Tryz.underlying3 }
open Go.RowKit Go.Lib in
theorem Tryz.strings_Cut_shaped (s sep : ByteArray) (w : World) (h : w.ShapedOpen Tryz.prog) (hs : s.size < 4294967281) :
    Calls Tryz.prog 95 #[.string s, .string sep] w fun e w' => e = .returned (.tuple #[.string ⟨(Lib.cut s.data.toList sep.data.toList).1.toArray⟩, .string ⟨(Lib.cut s.data.toList sep.data.toList).2.1.toArray⟩, .bool (Lib.cut s.data.toList sep.data.toList).2.2]) ∧ ∃ n, w' = w.drewN n := Any.strings_Cut_shaped Tryz.laysM145 s sep w h hs
def Tryz.lays264_ren : Go.Shelf.Ren := ⟨fun | 264 => 115 | n => n, fun | 53 => 24 | 46 => 155 | n => n, fun | n => n⟩
theorem Tryz.lays264 : Go.Proofs.Lays.n264 Tryz.prog Tryz.lays264_ren := {
  mixed := by kernel_rfl
  f264 := Tryz.func115.trans (congrArg some (by kernel_rfl))
  t46 := Tryz.underlying155
  a46 := Tryz.isAgg155
  z46 := Tryz.sizeOf155
  v46 := Tryz.zeroValue155
  t53 := Tryz.underlying24
  a53 := Tryz.isAgg24
  z53 := Tryz.sizeOf24
  v53 := Tryz.zeroValue24 }
open Go.RowKit Go.Lib in
theorem Tryz.bits_Mul64 (x y : Nat) (hx : x < 18446744073709551616) (hy : y < 18446744073709551616) (w : World) :
    Calls Tryz.prog 115 #[.int .u64 x, .int .u64 y] w fun e w' => e = .returned (.tuple #[.int .u64 ((x * y / 18446744073709551616 : Nat) : Int), .int .u64 ((x * y % 18446744073709551616 : Nat) : Int)]) ∧ w' = w := Any.bits_Mul64 Tryz.lays264 x y hx hy w
end Go.Proofs

namespace Go.Proofs.YtmopgcbhmkemjaaGreatDoor
open Go Go.RowKit Go.Shelf
set_option linter.unusedSimpArgs false
set_option linter.unusedVariables false
set_option maxRecDepth 100000
attribute [local go_sem] Oper.semAt_some

theorem bitLenAux_le : ∀ (f x : Nat), Lib.bitLenAux f x ≤ f
  | 0, x => by simp [Lib.bitLenAux]
  | f + 1, x => by
    have := bitLenAux_le f (x / 2)
    simp only [Lib.bitLenAux]; split <;> omega
theorem bitLenAux_lt : ∀ (f x : Nat), x < 2 ^ f → x < 2 ^ Lib.bitLenAux f x
  | 0, x, h => by simpa [Lib.bitLenAux] using h
  | f + 1, x, h => by
    have h2 : x / 2 < 2 ^ f := by rw [Nat.pow_succ] at h; omega
    have := bitLenAux_lt f (x / 2) h2
    simp only [Lib.bitLenAux]
    split
    · rename_i h0; subst h0; simp
    · rw [Nat.add_comm, Nat.pow_succ]; omega
theorem len64_any (x : Nat) (hx : x < B) (w : World) : Calls Tryz.prog 142 #[q64 x] w fun e w' => ∃ t : Nat, t ≤ 64 ∧ x < 2 ^ t ∧ e = .returned (.int .i64 t) ∧ w' = w := by
  rw [B_eq] at hx
  refine (Tryz.bits_Len64 (x : Int) w (by omega) (by omega)).mono ?_
  rintro e w' ⟨rfl, rfl⟩
  exact ⟨_, bitLenAux_le 64 _, bitLenAux_lt 64 _ (by omega), rfl, rfl⟩

/-- What has come when those from j on are over. -/
def downs (j : Nat) : List (Fin 4) := ([3, 2, 1, 0] : List (Fin 4)).take (4 - j)
theorem downs_succ (j : Nat) (h : j < 4) : downs j = downs (j + 1) ++ [⟨j, h⟩] := by
  match j, h with
  | 0, _ => rfl
  | 1, _ => rfl
  | 2, _ => rfl
  | 3, _ => rfl
theorem downs_mem (j k : Nat) (hk : k < 4) (h : j ≤ k) : (⟨k, hk⟩ : Fin 4) ∈ downs j := by
  have : ∀ j : Fin 5, ∀ k : Fin 4, j.1 ≤ k.1 → k ∈ downs j.1 := by decide
  exact this ⟨j, by omega⟩ ⟨k, hk⟩ h
theorem downs_length (j : Nat) (h : j ≤ 4) : (downs j).length = 4 - j := by
  have : ∀ j : Fin 5, (downs j.1).length = 4 - j.1 := by decide
  exact this ⟨j, by omega⟩

set_option maxHeartbeats 4000000 in
theorem back1_in (n : Nat) (hn : 1 ≤ n) (l Bs n₀ b cap a : Nat) (hb : b < n₀) (J Jx : List (Fin 4) → World → Prop)
    (hY : ∀ pre x W, J pre W → pre.length < 4 → YieldAt Fence.wide (n - 1) Tryz.prog l #[.int .i64 (x.1 : Int), q64 (wn a x.1)] W fun e W' =>
      (e = .returned (.bool true) ∧ J (pre ++ [x]) W' ∧ Below n₀ W W') ∨ (e = .returned (.bool false) ∧ Jx (pre ++ [x]) W'))
    (W : World) (hBs : W.cell? ⟨Bs, 0, none⟩ = some (.slice (some ⟨b, 0, none⟩) 4 cap)) (hBl : Bs < n₀) (hc : ∀ j, j < 4 → W.cell? ⟨b, j, none⟩ = some (q64 (wn a j))) (h0 : J [] W) :
    CallsIn Fence.wide n Tryz.prog 172 #[.func (.yield l) #[] #[], .pointer (some ⟨Bs, 0, none⟩)] W fun e W' => (∃ v, e = .returned v) ∧
      ((∃ ys, ys = downs 0 ∧ J ys W') ∨ (∃ pre, (∃ k, k < 4 ∧ pre = downs k) ∧ Jx pre W')) := by
  refine callsIn_of_wp Tryz.func172 rfl trivial ?_ rfl
  simp only [Tryz.ntmps172, List.size_toArray, List.length_cons, List.length_nil, Nat.reduceAdd, Nat.reduceSub, Array.replicate_succ, Array.replicate_zero, List.push_toArray, List.append_toArray, List.nil_append, List.cons_append]
  gi_wp2
  gi_loopw [3] (fun i wr => ∃ k : Nat, k ≤ 4 ∧ i = .int .i64 ((k : Int) - 1) ∧ J (downs k) wr ∧ Below n₀ W wr)
    (fun i _ => (intOf i + 1).toNat)
  case atStart => exact ⟨4, Nat.le_refl _, rfl, h0, Below.refl _ _⟩
  case round =>
    obtain ⟨k, hk, rfl, hJs, hnx⟩ := hrel
    have hBs' := (hnx.cell (p := ⟨Bs, 0, none⟩) hBl).trans hBs
    rcases k with _ | j
    · gi_wp2
      go_end0
      exact ⟨⟨_, rfl⟩, .inl ⟨_, rfl, hJs⟩⟩
    · have ej : ((j + 1 : Nat) : Int) - 1 = (j : Int) := by omega
      rw [ej]
      have hcx := (hnx.cell (p := ⟨b, j, none⟩) hb).trans (hc j (by omega))
      obtain ⟨fn, tmps, assign, body, hy, hR⟩ := hY _ (⟨j, by omega⟩ : Fin 4) wr hJs (by rw [downs_length _ hk]; omega)
      dsimp only at hy
      gi_wp2
      refine hR.mono ?_
      rintro e W3 (⟨rfl, hJ3, hk3⟩ | ⟨rfl, hJx3⟩)
      · gi_wp2
        go_roundw
        case rel => exact ⟨j, by omega, rfl, by rw [downs_succ j (by omega)]; exact hJ3, hnx.trans hk3⟩
        case measure => simp [intOf]
      · gi_wp2
        refine bodyPost_ret (results_none rfl _ _ _) rfl ?_
        exact ⟨⟨_, rfl⟩, .inr ⟨_, ⟨j, by omega, (downs_succ j (by omega)).symm⟩, hJx3⟩⟩
end Go.Proofs.YtmopgcbhmkemjaaGreatDoor

namespace Go.Proofs.YtmopgcbhmkemjaaGreatDoor
open Go Go.RowKit Go.Shelf
set_option linter.unusedSimpArgs false
set_option linter.unusedVariables false
set_option maxRecDepth 100000
set_option exponentiation.threshold 1000
attribute [local go_sem] Oper.semAt_some

theorem div_zero_step (a j : Nat) (h : a / B ^ (j + 1) = 0) (hw : wn a j = 0) : a / B ^ j = 0 := by
  unfold wn at hw
  rw [Nat.pow_succ, ← Nat.div_div_eq_div_mul] at h
  have := Nat.div_add_mod (a / B ^ j) B
  rw [h, hw] at this
  omega
theorem div_zero_from (a k : Nat) (ha : a < B ^ 4) (h : ∀ j, k ≤ j → j < 4 → wn a j = 0) : ∀ m, k + m = 4 ∨ k + m < 4 → a / B ^ (k + m) = 0 ∨ False := by
  suffices H : ∀ n, ∀ m, k ≤ m → m + n = 4 → a / B ^ m = 0 from fun m hm => .inl (H (4 - (k + m)) (k + m) (by omega) (by omega))
  intro n
  induction n with
  | zero => intro m _ hm; obtain rfl : m = 4 := by omega
            exact Nat.div_eq_of_lt ha
  | succ n ih => intro m hk hm; exact div_zero_step a m (ih (m + 1) (by omega) (by omega)) (h m hk (by omega))
theorem div_zero_at (a k : Nat) (hk : k ≤ 4) (ha : a < B ^ 4) (h : ∀ j, k ≤ j → j < 4 → wn a j = 0) : a / B ^ k = 0 :=
  (div_zero_from a k ha h 0 (by omega)).elim id False.elim
theorem top_bound (a k t : Nat) (hk : k < 4) (ha : a < B ^ 4) (h : ∀ j, k + 1 ≤ j → j < 4 → wn a j = 0) (hw : wn a k < 2 ^ t) : a < 2 ^ (64 * k + t) := by
  have h1 := div_zero_at a (k + 1) (by omega) ha h
  rw [Nat.pow_succ, ← Nat.div_div_eq_div_mul] at h1
  have h2 : a / B ^ k = wn a k := by
    unfold wn
    have := Nat.div_add_mod (a / B ^ k) B
    rw [h1] at this; omega
  rw [← h2, Nat.div_lt_iff_lt_mul (Nat.pow_pos B_pos), B_two, ← Nat.pow_mul, ← Nat.pow_add] at hw
  rwa [Nat.add_comm]

theorem back_in (n : Nat) (a : Option Addr) (len cap : Nat) (w : World) :
    CallsIn Fence.wide n Tryz.prog 163 #[.slice a len cap] w fun e w' =>
      e = .returned (.func (.func 172) #[] #[.pointer (some ⟨w.heap.size, 0, none⟩)]) ∧ w' = w.alloc (.cells #[.slice a len cap] 199) := by
  refine callsIn_of_wp Tryz.func163 rfl trivial ?_ rfl
  simp only [Tryz.ntmps163, List.size_toArray, List.length_cons, List.length_nil, Nat.reduceAdd, Nat.reduceSub, Array.replicate_succ, Array.replicate_zero, List.push_toArray, List.append_toArray, List.nil_append, List.cons_append]
  gi_wp2
  go_ret
  exact ⟨rfl, rfl⟩

theorem back_stops (n : Nat) (hn : 1 ≤ n) (Bs n₀ b cap a : Nat) (hb : b < n₀) (hBl : Bs < n₀) (w : World) (hn₀ : n₀ ≤ w.heap.size)
    (hc : w.cell? ⟨Bs, 0, none⟩ = some (.slice (some ⟨b, 0, none⟩) 4 cap)) (hI : ∀ j, j < 4 → w.cell? ⟨b, j, none⟩ = some (q64 (wn a j))) :
    SeqStopsK Fence.wide n Tryz.prog 172 #[.pointer (some ⟨Bs, 0, none⟩)] (fun x : Fin 4 => #[Value.int .i64 (x.1 : Int), q64 (wn a x.1)]) (Below n₀) (fun ys => ys = downs 0) (fun pre => ∃ k, k < 4 ∧ pre = downs k) 4 w :=
  fun l J Jx W hW _ _ hY h0 => back1_in n hn l Bs n₀ b cap a hb J Jx hY W ((hW.cell (p := ⟨Bs, 0, none⟩) (by show Bs < _; omega)).trans hc) hBl (fun j hj => (hW.cell (p := ⟨b, j, none⟩) (by show b < _; omega)).trans (hI j hj)) h0

set_option maxHeartbeats 8000000 in
theorem top_in (n : Nat) (hn : 3 ≤ n) (a : Nat) (ha : a < B4) (w : World) :
    CallsIn Fence.wide n Tryz.prog 149 #[magV a] w fun e w' => ∃ t : Nat, t ≤ 256 ∧ a < 2 ^ t ∧ e = .returned (.int .i64 t) ∧ Below w.heap.size w w' := by
  have h1 : 1 ≤ n := by omega
  refine callsIn_of_wp_marks Tryz.func149 rfl trivial ?_ rfl
  simp only [Tryz.ntmps149, List.size_toArray, List.length_cons, List.length_nil, Nat.reduceAdd, Nat.reduceSub, Array.replicate_succ, Array.replicate_zero, List.push_toArray, List.append_toArray, List.nil_append, List.cons_append]
  gi_wp2_with (refine ⟨trivial, ?_⟩; gi_at_call 163; refine (back_in (n - 1) _ _ _ _).mono ?_; rintro e w' ⟨rfl, rfl⟩)
  have bR := Boxed.new (w.alloc (.cells #[q64 (wn a 0), q64 (wn a 1), q64 (wn a 2), q64 (wn a 3)] 156)) 3 (.int .i64 0)
  rw [World.size_alloc] at bR
  have hB0 : Below w.heap.size w (((w.alloc (.cells #[q64 (wn a 0), q64 (wn a 1), q64 (wn a 2), q64 (wn a 3)] 156)).alloc (.cells #[.int .i64 0] 3)).alloc (.cells #[.slice (some ⟨w.heap.size, 0, none⟩) 4 4] 199)) := by
    refine Below.alloc (Below.alloc (Below.alloc (Below.refl _ w) ?_ _) ?_ _) ?_ _ <;> simp <;> omega
  have hst := back_stops (n - 1) (by omega) (w.heap.size + 1 + 1) (w.heap.size + 1 + 1 + 1) w.heap.size 4 a (by omega) (by omega) (((w.alloc (.cells #[q64 (wn a 0), q64 (wn a 1), q64 (wn a 2), q64 (wn a 3)] 156)).alloc (.cells #[.int .i64 0] 3)).alloc (.cells #[.slice (some ⟨w.heap.size, 0, none⟩) 4 4] 199))
    (by simp) (by simp [go_sem]) (by
      intro j hj
      rcases (by omega : j = 0 ∨ j = 1 ∨ j = 2 ∨ j = 3) with rfl | rfl | rfl | rfl <;> simp [go_sem])
  refine wpIn_rangeFunc_ownG rfl h1 (gf := 172) (lb := #[.pointer (some ⟨w.heap.size + 1 + 1, 0, none⟩)]) rfl trivial (enters_of Tryz.func172 (by kernel_rfl) rfl)
    hst belowK_t (belowK_b (by simp)) (Below.refl _ _) (fun _ => rfl)
    (fun pre W => ((∀ p ∈ pre, wn a p.1 = 0) ∧ W.cell? ⟨w.heap.size + 1, 0, none⟩ = some (.int .i64 0) ∧ W.frozen? ⟨w.heap.size + 1, 0, none⟩ = false) ∧ Below w.heap.size w W)
    (fun c pre W => (c = .ret ∧ ∃ ini last, pre = ini ++ [last] ∧ (∀ p ∈ ini, wn a p.1 = 0) ∧ ∃ t : Nat, t ≤ 64 ∧ wn a last.1 < 2 ^ t ∧ W.cell? ⟨w.heap.size + 1, 0, none⟩ = some (.int .i64 ((64 * last.1 + t : Nat) : Int))) ∧ Below w.heap.size w W)
    (OwnFrom.and (Own.from (fun s A B row hs hg hr => ⟨hs.1, cell_kept hs.2.1 hg hr, (frozen_kept hs.2.1 hg hr).trans hs.2.2⟩) _) (ownFrom_below (Nat.le_refl _) (by simp; omega)))
    (fun c => OwnFrom.and (Own.from (fun s A B row hs hg hr => by obtain ⟨hc, ini, last, e1, e2, t, e3, e4, e5⟩ := hs; exact ⟨hc, ini, last, e1, e2, t, e3, e4, cell_kept e5 hg hr⟩) _) (ownFrom_below (Nat.le_refl _) (by simp; omega)))
    ⟨⟨by simp, (bR.alloc _).cell, (bR.alloc _).frozen⟩, hB0⟩
    (fun x => { tmps := #[magV a, .pointer (some ⟨w.heap.size, 0, none⟩), .pointer (some ⟨w.heap.size + 1, 0, none⟩), .int .i64 (x.1 : Int), q64 (wn a x.1), .slice (some ⟨w.heap.size, 0, none⟩) 4 4, .func (.func 172) #[] #[.pointer (some ⟨w.heap.size + 1 + 1, 0, none⟩)], .int .i64 (x.1 : Int), q64 (wn a x.1), undef, undef, undef, undef, undef, undef, undef], defers := [] }) ?assign ?body ?done ?stop
  case assign =>
    intro l x W K hK
    gi_wp2
    exact hK
  case body =>
    rintro l pre x W ⟨⟨hp, hcr, hfr⟩, hB⟩ _
    have hx4 := x.2
    have hlen := len64_any (wn a x.1) (wn_lt _ _)
    gi_wp2_with (refine ⟨trivial, (fun _ => by omega), ?_⟩; gi_at_call 142; refine (CallsIn.inRound l (callsIn_wide.2 (hlen _))).mono ?_; rintro e w' ⟨t, ht, hwt, rfl, rfl⟩)
    · exact ⟨(KeepsOthers.setCell _ _ _).from _, ⟨rfl, pre, x, rfl, hp, t, ht, hwt, by rw [World.cell?_setCell_same' _ _ _ (by rw [hcr]; rfl)]; congr 2⟩, hB.setCell (p := ⟨w.heap.size + 1, 0, none⟩) (by show w.heap.size ≤ w.heap.size + 1; omega) _⟩
    · have hx : (((wn a x.1 : Nat) : Int) != 0) = false := by assumption
      have hx0 : wn a x.1 = 0 := by simp at hx; exact hx
      exact ⟨KeepsFrom.refl _ _, Below.refl _ _, ⟨fun p hp' => (List.mem_append.1 hp').elim (hp p) (fun e => by simp at e; subst e; exact hx0), hcr, hfr⟩, hB⟩
  case done =>
    rintro D ys W hD rfl ⟨⟨hne, hcr, hfr⟩, hB⟩ hK
    gi_wp2
    have hK' := (KeepsOthers.setCell W ⟨w.heap.size + 1, 0, none⟩ (.int .i64 0)).same D _ hK rfl
    refine ⟨by simp, .inl ⟨_, _, rfl, run_takeDeferred hK', ?_⟩⟩
    have hc5 := cell_kept (World.cell?_setCell_same' W ⟨w.heap.size + 1, 0, none⟩ (.int .i64 0) (by rw [hcr]; rfl)) (grownBy_putObj' _ D (.deferred none)) (fun r e => by cases e; exact ⟨_, hK', rfl⟩)
    refine ⟨.int .i64 0, ?_, 0, by omega, ?_, rfl, (hB.setCell (p := ⟨w.heap.size + 1, 0, none⟩) (by show w.heap.size ≤ w.heap.size + 1; omega) _).trans (belowK_b (w := w) (Nat.le_refl _) _ D _ _ (by simp at hD; omega) hK' rfl rfl)⟩
    · simp [results, Tryz.results149, go_sem, hc5]
    · have := div_zero_at a 0 (by omega) ha (fun j _ hj => hne ⟨j, hj⟩ (downs_mem 0 j hj (by omega)))
      simp at this
      omega
  case stop =>
    rintro D c pre W hD ⟨k, hk, rfl⟩ ⟨⟨rfl, ini, last, e1, e2, t, e3, e4, hcr⟩, hB⟩ hK
    gi_wp2
    refine ⟨by simp, .inl ⟨_, _, rfl, run_takeDeferred hK, ?_⟩⟩
    have hc5 := cell_kept hcr (grownBy_putObj' _ D (.deferred none)) (fun r e => by cases e; exact ⟨_, hK, rfl⟩)
    rw [downs_succ k hk] at e1
    obtain ⟨rfl, e5⟩ := List.append_inj' e1 rfl
    obtain rfl : (⟨k, hk⟩ : Fin 4) = last := by simpa using e5
    refine ⟨.int .i64 ((64 * k + t : Nat) : Int), ?_, 64 * k + t, by omega, top_bound a k t hk ha (fun j hj h4 => e2 ⟨j, h4⟩ (downs_mem (k + 1) j h4 hj)) e4, rfl, hB.trans (belowK_b (w := w) (Nat.le_refl _) W D _ _ (by simp at hD; omega) hK rfl rfl)⟩
    simp [results, Tryz.results149, go_sem, hc5]
theorem top_any (a : Nat) (ha : a < B4) (w : World) :
    Calls Tryz.prog 149 #[magV a] w fun e w' => ∃ t : Nat, t ≤ 256 ∧ a < 2 ^ t ∧ e = .returned (.int .i64 t) ∧ Ext w w' := by
  refine (callsIn_wide.1 (top_in 3 (by omega) a ha w)).mono ?_
  rintro e w' ⟨t, h1, h2, h3, h4⟩
  exact ⟨t, h1, h2, h3, Ext.of_below h4⟩
end Go.Proofs.YtmopgcbhmkemjaaGreatDoor

namespace Go.Proofs.YtmopgcbhmkemjaaGreatDoor
open Go Go.RowKit
set_option linter.unusedSimpArgs false
set_option linter.unusedVariables false
set_option maxRecDepth 100000

/-- A magnitude's block. -/
abbrev magC (m : Nat) : Obj := .cells #[q64 (wn m 0), q64 (wn m 1), q64 (wn m 2), q64 (wn m 3)] 156
def Holds4 (A : Array Value) (f : Nat → Nat) : Prop := A.size = 4 ∧ ∀ j, j < 4 → A[j]? = some (q64 (f j))
theorem Holds4.set {A : Array Value} {f g : Nat → Nat} (h : Holds4 A f) (i x : Nat) (hi : i < 4) (hx : g i = x) (hg : ∀ j, j < 4 → j ≠ i → g j = f j) : Holds4 (A.setIfInBounds i (q64 x)) g := by
  refine ⟨by simp [h.1], fun j hj => ?_⟩
  by_cases e : j = i
  · subst e; rw [hx]; simp [h.1, hi]
  · rw [Array.getElem?_setIfInBounds_ne (fun h => e h.symm), hg j hj e]; exact h.2 j hj
theorem Holds4.lit {A : Array Value} {f : Nat → Nat} (h : Holds4 A f) : A = #[q64 (f 0), q64 (f 1), q64 (f 2), q64 (f 3)] := by
  obtain ⟨hs, h⟩ := h
  apply Array.ext_getElem?
  intro i
  match i with
  | 0 => simpa using h 0 (by decide)
  | 1 => simpa using h 1 (by decide)
  | 2 => simpa using h 2 (by decide)
  | 3 => simpa using h 3 (by decide)
  | n + 4 => rw [Array.getElem?_eq_none (by omega), Array.getElem?_eq_none (by simp)]
theorem magV_mod (m : Nat) : magV (m % B4) = magV m := by
  have h : ∀ k, k < 4 → wn (m % B4) k = wn m k := by
    intro k hk
    unfold wn
    have e : B ^ 4 = B ^ k * B ^ (4 - k) := by rw [← Nat.pow_add]; congr 1; omega
    rw [show B4 = B ^ 4 from rfl, e, Nat.mod_mul_right_div_self, show 4 - k = (4 - k - 1) + 1 by omega, Nat.pow_succ, Nat.mod_mul_left_mod]
  simp only [magV, h 0 (by decide), h 1 (by decide), h 2 (by decide), h 3 (by decide)]

theorem doubled_mod (a c : Nat) (ha : a < B4) (hc : c ≤ 1) (w : World) :
    Calls Tryz.prog 150 #[magV a, q64 c] w fun e w' => e = .returned (.tuple #[magV ((2 * a + c) % B4), q64 ((2 * a + c) / B4)]) ∧ Ext w w' := by
  rw [magV_mod]; exact doubled_any a c ha hc w

set_option maxHeartbeats 16000000 in
theorem parts_any (a b : Nat) (ha : a < B4) (hb0 : 0 < b) (hb : b < B4) (w : World) :
    Calls Tryz.prog 121 #[magV a, magV b] w fun e w' => e = .returned (.tuple #[magV (a / b), magV (a % b)]) ∧ Ext w w' := by
  go_enter Tryz.func121, Tryz.ntmps121
  go_wp2_with (go_at_call 149; refine (top_any a ha _).mono ?_; rintro e w' ⟨t, ht, hat, rfl, d, rfl⟩)
  go_loopg [6] t (fun g q wr => ∃ (j : Nat) (Aq : Array Value) (d : Gr), j ≤ 256 ∧ g = j ∧ q = .int .i64 ((j : Int) - 1) ∧ Holds4 Aq (wn (qk a b j)) ∧
      wr = grow ((((w.alloc (magC a)).alloc (magC b)).alloc (.cells Aq 156)).alloc (magC (rk a b j))) d)
  case atStart =>
    refine ⟨t, #[q64 (wn 0 0), q64 (wn 0 1), q64 (wn 0 2), q64 (wn 0 3)], d, by omega, rfl, rfl, ?_, ?_⟩
    · rw [qk_high a b t hat]
      refine ⟨rfl, fun j hj => ?_⟩
      rcases (by omega : j = 0 ∨ j = 1 ∨ j = 2 ∨ j = 3) with rfl | rfl | rfl | rfl <;> rfl
    · rw [rk_high a b t hat]; simp only [magC, wn_zero]; rfl
  case round =>
    obtain ⟨j, Aq, d, hj, rfl, rfl, hAq, rfl⟩ := hrel
    by_cases e : gk = 0
    · subst e
      rw [qk_zero] at hAq
      have hl := hAq.lit
      subst hl
      have hr0 : rk a b 0 = a % b := by simp [rk]
      rw [hr0]
      go_wp2
      go_region
      go_wp2
      exact bodyPost_ret (v := .tuple #[magV (a / b), magV (a % b)]) (by simp [results, Tryz.results121, go_sem]) rfl ⟨rfl, (by repeat (first | (with_reducible exact Ext.refl _) | (with_reducible assumption) | (with_reducible apply Ext.grow) | (with_reducible apply Ext.alloc) | (with_reducible apply Ext.drew) | ((with_reducible apply Ext.set); (case hb => (first | omega | (simp; omega))))))⟩
    · obtain ⟨i, rfl⟩ : ∃ i, gk = i + 1 := ⟨gk - 1, by omega⟩
      have ei : ((i + 1 : Nat) : Int) - 1 = (i : Int) := by omega
      rw [ei]
      have hi64 : i / 64 < 4 := by omega
      have hcq := hAq.2 (i / 64) hi64
      have h1 : IntKind.i64.wrap ((i : Int) / 64) = ((i / 64 : Nat) : Int) := by rw [IntKind.wrap_i64]; omega
      have h3 : min (i % 64) 64 = i % 64 := by omega
      have h6 : ((i : Int) / 64).toNat = i / 64 := by omega
      have h7 : 0 ≤ (i : Int) / 64 := by omega
      have h8 : (i : Int) / 64 < 4 := by omega
      have h9 : ((i : Int) % 64).toNat = i % 64 := by omega
      have h11 : ((i : Int)).tmod 64 = (i : Int) % 64 := by rw [Int.tmod_eq_emod_of_nonneg (by omega)]
      have h10 : 0 ≤ (i : Int) % 64 := by omega
      have hrl : rk a b (i + 1) < b := rk_lt a b (i + 1) hb0
      have cb := bit_any a i (by omega)
      have cd := doubled_mod (rk a b (i + 1)) (bitn a i) (by omega) (bitn_le a i)
      have hbit := bitn_le a i
      have sl := step_lt a b i hb0
      have sg := step_ge a b i hb0
      have hR : 2 * rk a b (i + 1) + bitn a i < 2 * b := by omega
      generalize 2 * rk a b (i + 1) + bitn a i = R at *
      by_cases hlt : R < b
      · obtain ⟨s1, s2⟩ := sl hlt
        clear sg
        have m1 : R % B4 = R := Nat.mod_eq_of_lt (by omega)
        have m2 : R / B4 = 0 := Nat.div_eq_of_lt (by omega)
        have cm := mags_any R b (by omega) hb
        have c3 : cmp3 R b = -1 := by simp [cmp3, hlt]
        rw [m1, m2] at cd
        rw [c3] at cm
        rw [← s2] at hAq
        clear m1 m2 c3 sl s2
        go_wp2
        (first | refine wp_region_k' [.r, .r, .p, .r, .r, .p, .p, .p, .w, .p] (by kernel_rfl) (by kernel_rfl) ?_ | refine wp_region_k [.r, .r, .p, .r, .r, .p, .p, .p, .w, .p] (by kernel_rfl) (by kernel_rfl) ?_); (repeat (first | (refine wpK_p rfl (fun K hK => ?_); go_simp; refine hK _ _ ?_; clear hK K) | (refine wpK_r rfl (fun K hK => ?_); go_simp; refine hK _ _ ?_; clear hK K) | (refine wpK_w rfl (fun K hK => ?_); go_simp; refine hK _ _ ?_; clear hK K) | (refine wpK_r rfl (fun K hK => ?_); go_simp; apply Exists.intro; refine ⟨fun d => ?_, hK _ _ ?_⟩; (first | exact Calls.calm (cb _) | exact Calls.calm (cd _)); clear hK K))); refine wpK_nil ?_; intro d
        go_wp2_with (go_at_call 152; refine (cm _).mono ?_; rintro e w' ⟨rfl, d, rfl⟩)
        go_roundg i
        case measure => omega
        case rel => exact ⟨i, Aq, _, by omega, rfl, by go_num, hAq, by rw [s1]⟩
      · obtain ⟨s1, s2⟩ := sg hlt
        clear sl sg
        have ho := or_put (qk a b (i + 1)) i (qk_mod a b (i + 1))
        rw [← s2, two_cast] at ho
        have hw : IntKind.u64.wrap (2 ^ (i % 64)) = 2 ^ (i % 64) := two_wrap _ (Nat.mod_lt _ (by decide))
        have s2' := Lib.hid s2
        have s1' := Lib.hid s1
        have hlm : R % B4 < B4 := Nat.mod_lt _ (by omega)
        have cl := less_any (R % B4) b hlm hb
        have el : (R % B4 + B ^ 4 - b) % B ^ 4 = R - b := by
          rw [B4_pow]
          by_cases ho4 : R < B4
          · rw [Nat.mod_eq_of_lt ho4, show R + B4 - b = R - b + B4 by omega, Nat.add_mod_right, Nat.mod_eq_of_lt (by omega)]
          · rw [show R % B4 = R - B4 by rw [Nat.mod_eq_sub_mod (by omega), Nat.mod_eq_of_lt (by omega)], show R - B4 + B4 - b = R - b by omega, Nat.mod_eq_of_lt (by omega)]
        rw [el] at cl
        clear s1 s2 el hlm
        by_cases ho4 : R < B4
        · have m1 : R % B4 = R := Nat.mod_eq_of_lt ho4
          have m2 : R / B4 = 0 := Nat.div_eq_of_lt ho4
          have cm := mags_any R b ho4 hb
          have c3 : decide (cmp3 R b ≥ 0) = true := by
            have : ¬ R < b := hlt
            simp only [cmp3, if_neg this]; split <;> simp
          generalize cmp3 R b = z at *
          rw [m1, m2] at cd
          rw [m1] at cl
          clear m1 m2
          go_wp2
          (first | refine wp_region_k' [.r, .r, .p, .r, .r, .p, .p, .p, .w, .p] (by kernel_rfl) (by kernel_rfl) ?_ | refine wp_region_k [.r, .r, .p, .r, .r, .p, .p, .p, .w, .p] (by kernel_rfl) (by kernel_rfl) ?_); (repeat (first | (refine wpK_p rfl (fun K hK => ?_); go_simp; refine hK _ _ ?_; clear hK K) | (refine wpK_r rfl (fun K hK => ?_); go_simp; refine hK _ _ ?_; clear hK K) | (refine wpK_w rfl (fun K hK => ?_); go_simp; refine hK _ _ ?_; clear hK K) | (refine wpK_r rfl (fun K hK => ?_); go_simp; apply Exists.intro; refine ⟨fun d => ?_, hK _ _ ?_⟩; (first | exact Calls.calm (cb _) | exact Calls.calm (cd _)); clear hK K))); refine wpK_nil ?_; intro d
          go_wp2_with (first
            | (go_at_call 152; refine (cm _).mono ?_; rintro e w' ⟨rfl, d, rfl⟩)
            | (go_at_call 153; refine (cl _).mono ?_; rintro e w' ⟨rfl, d, rfl⟩))
          (first | refine wp_region_k' [.p, .p, .p, .r, .p, .p, .p, .p, .p, .w] (by kernel_rfl) (by kernel_rfl) ?_ | refine wp_region_k [.p, .p, .p, .r, .p, .p, .p, .p, .p, .w] (by kernel_rfl) (by kernel_rfl) ?_); (repeat (first | (refine wpK_p rfl (fun K hK => ?_); go_simp; refine hK _ _ ?_; clear hK K) | (refine wpK_r rfl (fun K hK => ?_); go_simp; refine hK _ _ ?_; clear hK K) | (refine wpK_w rfl (fun K hK => ?_); go_simp; refine hK _ _ ?_; clear hK K))); refine wpK_nil ?_; intro d
          go_wp2
          go_roundg i
          case measure => omega
          case rel => exact ⟨i, _, _, by omega, rfl, by go_num, hAq.set (i / 64) _ hi64 rfl (fun k hk hne => by rw [s2'.out, wn_put _ i k (qk_mod a b (i + 1)), if_neg hne]), by rw [s1'.out]⟩
        · have m2 : R / B4 = 1 := by
            rw [Nat.div_eq_sub_div (by omega) (by omega), Nat.div_eq_of_lt (by omega)]
          rw [m2] at cd
          clear m2
          generalize R % B4 = R' at *
          go_wp2
          (first | refine wp_region_k' [.r, .r, .p, .r, .r, .p, .p, .p, .w, .p] (by kernel_rfl) (by kernel_rfl) ?_ | refine wp_region_k [.r, .r, .p, .r, .r, .p, .p, .p, .w, .p] (by kernel_rfl) (by kernel_rfl) ?_); (repeat (first | (refine wpK_p rfl (fun K hK => ?_); go_simp; refine hK _ _ ?_; clear hK K) | (refine wpK_r rfl (fun K hK => ?_); go_simp; refine hK _ _ ?_; clear hK K) | (refine wpK_w rfl (fun K hK => ?_); go_simp; refine hK _ _ ?_; clear hK K) | (refine wpK_r rfl (fun K hK => ?_); go_simp; apply Exists.intro; refine ⟨fun d => ?_, hK _ _ ?_⟩; (first | exact Calls.calm (cb _) | exact Calls.calm (cd _)); clear hK K))); refine wpK_nil ?_; intro d
          go_wp2_with (go_at_call 153; refine (cl _).mono ?_; rintro e w' ⟨rfl, d, rfl⟩)
          (first | refine wp_region_k' [.p, .p, .p, .r, .p, .p, .p, .p, .p, .w] (by kernel_rfl) (by kernel_rfl) ?_ | refine wp_region_k [.p, .p, .p, .r, .p, .p, .p, .p, .p, .w] (by kernel_rfl) (by kernel_rfl) ?_); (repeat (first | (refine wpK_p rfl (fun K hK => ?_); go_simp; refine hK _ _ ?_; clear hK K) | (refine wpK_r rfl (fun K hK => ?_); go_simp; refine hK _ _ ?_; clear hK K) | (refine wpK_w rfl (fun K hK => ?_); go_simp; refine hK _ _ ?_; clear hK K))); refine wpK_nil ?_; intro d
          go_wp2
          go_roundg i
          case measure => omega
          case rel => exact ⟨i, _, _, by omega, rfl, by go_num, hAq.set (i / 64) _ hi64 rfl (fun k hk hne => by rw [s2'.out, wn_put _ i k (qk_mod a b (i + 1)), if_neg hne]), by rw [s1'.out]⟩
end Go.Proofs.YtmopgcbhmkemjaaGreatDoor

namespace Go.Proofs.YtmopgcbhmkemjaaGreatDoor
open Go Go.RowKit
set_option linter.unusedSimpArgs false
set_option linter.unusedVariables false
set_option maxRecDepth 100000

theorem grow_alloc2_grow (w : World) (d e : Gr) (o o' : Obj) : grow (((grow w d).alloc o).alloc o') e = grow w ⟨(d.obs.push o).push o' ++ e.obs, fun k => e.n (d.n k)⟩ := by
  simp [grow, World.alloc]
theorem grow_alloc3_grow (w : World) (d e : Gr) (o o' o'' : Obj) : grow ((((grow w d).alloc o).alloc o').alloc o'') e = grow w ⟨((d.obs.push o).push o').push o'' ++ e.obs, fun k => e.n (d.n k)⟩ := by
  simp [grow, World.alloc]

end Go.Proofs.YtmopgcbhmkemjaaGreatDoor

namespace Go.Proofs.YtmopgcbhmkemjaaGreatDoor
open Go Go.RowKit
set_option linter.unusedSimpArgs false
set_option linter.unusedVariables false
set_option maxRecDepth 100000

theorem leaves_limb {fn : Func} {tmps : Array Value} {R : Ending → World → Prop} {p : Addr} {fv : Value} {w : World} (v : Value)
    (hr : (results fn tmps).run Tryz.prog w = .ok v w) (h : R (.returned v) w) :
    Leaves Tryz.prog fn tmps R [{ target := .fn (.func 125) #[], args := #[.pointer (some p), fv] }] .returning w := by
  refine leaves_cons (f := 125) (args := #[.pointer (some p), fv]) (by simp) (by simp [go_sem]) ?_
  refine (caught_idle _ _ _).mono ?_
  rintro e u' w'' ⟨rfl, rfl, rfl⟩
  simp only [Leaves, settle]
  exact ⟨v, hr, h⟩
theorem leaves_limb_pan {fn : Func} {tmps : Array Value} {R : Ending → World → Prop} {pb : Nat} (x e : Int) (g : Nat) (caps : Array Value) {w : World}
    (hc : w.cell? ⟨pb, 0, none⟩ = some (.int .i64 x)) (hz : w.frozen? ⟨pb, 0, none⟩ = false)
    (eg : ∀ args w, (callFunc g args).run Tryz.prog w = .ok (.enter g args) w)
    (hg : Calls Tryz.prog g caps (w.setCell ⟨pb, 0, none⟩ (.int .i64 e)) fun e' w' => e' = .returned (.tuple #[]) ∧ ∃ v, (results fn tmps).run Tryz.prog w' = .ok v w' ∧ R (.returned v) w') :
    Leaves Tryz.prog fn tmps R [{ target := .fn (.func 125) #[], args := #[.pointer (some ⟨pb, 0, none⟩), .func (.func g) #[] caps] }] (.panicking [{ v := .iface 33 (.int .i64 e), recovered := false }]) w := by
  refine leaves_cons (f := 125) (args := #[.pointer (some ⟨pb, 0, none⟩), .func (.func g) #[] caps]) (by simp) (by simp [go_sem]) ?_
  refine caught_pan pb x e g _ [] _ _ hc hz eg (hg.mono ?_)
  rintro e' w' ⟨rfl, v, hr, h⟩
  refine ⟨rfl, ?_⟩
  simp only [Leaves, settle]
  exact ⟨v, hr, h⟩
end Go.Proofs.YtmopgcbhmkemjaaGreatDoor

namespace Go.Proofs.YtmopgcbhmkemjaaGreatDoor
open Go Go.RowKit
set_option linter.unusedSimpArgs false
set_option linter.unusedVariables false
set_option maxRecDepth 100000

end Go.Proofs.YtmopgcbhmkemjaaGreatDoor

namespace Go.Proofs.YtmopgcbhmkemjaaGreatDoor
open Go Go.RowKit
set_option linter.unusedSimpArgs false
set_option linter.unusedVariables false
set_option maxRecDepth 100000

theorem rmust_yes (e : Int) (w : World) : Calls Tryz.prog 109 #[.bool true, .int .i64 e] w fun e' w' => e' = .returned (.tuple #[]) ∧ w' = w := by
  go_enter Tryz.func109, Tryz.ntmps109
  go_wp2
  go_end0
  exact ⟨rfl, rfl⟩
theorem rmust_no (e : Int) (w : World) : Calls Tryz.prog 109 #[.bool false, .int .i64 e] w fun e' w' => e' = givesUp e ∧ w' = w := by
  go_enter Tryz.func109, Tryz.ntmps109
  go_wp2
  exact ⟨rfl, rfl, rfl⟩

theorem run_copy4 (W : World) (T : TypeId) (b1 o1 n1 b2 n2 m2 : Nat) (x0 x1 x2 x3 : Int) (y0 y1 y2 y3 : Value) (hn : 4 ≤ n2)
    (h0 : W.cell? ⟨b2, 0, none⟩ = some (.int .u64 x0)) (h1 : W.cell? ⟨b2, 1, none⟩ = some (.int .u64 x1)) (h2 : W.cell? ⟨b2, 2, none⟩ = some (.int .u64 x2)) (h3 : W.cell? ⟨b2, 3, none⟩ = some (.int .u64 x3))
    (g0 : W.cell? ⟨b1, o1, none⟩ = some y0) (g1 : W.cell? ⟨b1, o1 + 1, none⟩ = some y1) (g2 : W.cell? ⟨b1, o1 + 2, none⟩ = some y2) (g3 : W.cell? ⟨b1, o1 + 3, none⟩ = some y3)
    (f : ∀ i, W.frozen? ⟨b1, i, none⟩ = false) :
    (Builtin.copy_ #[199, 199] T #[.slice (some ⟨b1, o1, none⟩) 4 n1, .slice (some ⟨b2, 0, none⟩) n2 m2]).run Tryz.prog W =
      .ok (.int .i64 4) ((((W.setCell ⟨b1, o1, none⟩ (.int .u64 x0)).setCell ⟨b1, o1 + 1, none⟩ (.int .u64 x1)).setCell ⟨b1, o1 + 2, none⟩ (.int .u64 x2)).setCell ⟨b1, o1 + 3, none⟩ (.int .u64 x3)) := by
  have hm : Nat.min n2 4 = 4 := Nat.min_eq_right hn
  simp [Builtin.copy_, go_sem, Builtin.lenOf, Builtin.firstCells, hm, h0, h1, h2, h3, g0, g1, g2, g3, f]
theorem run_clear4 (W : World) (T : TypeId) (b1 m1 : Nat) (y0 y1 y2 y3 : Value)
    (g0 : W.cell? ⟨b1, 0, none⟩ = some y0) (g1 : W.cell? ⟨b1, 1, none⟩ = some y1) (g2 : W.cell? ⟨b1, 2, none⟩ = some y2) (g3 : W.cell? ⟨b1, 3, none⟩ = some y3)
    (f : ∀ i, W.frozen? ⟨b1, i, none⟩ = false) :
    (Builtin.clear_ #[199] T #[.slice (some ⟨b1, 0, none⟩) 4 m1]).run Tryz.prog W =
      .ok (.tuple #[]) ((((W.setCell ⟨b1, 0, none⟩ (.int .u64 0)).setCell ⟨b1, 1, none⟩ (.int .u64 0)).setCell ⟨b1, 2, none⟩ (.int .u64 0)).setCell ⟨b1, 3, none⟩ (.int .u64 0)) := by
  have hz : ∀ w, (zeroValue 24).run Tryz.prog w = .ok (.int .u64 0) w := fun w => by kernel_rfl
  simp [Builtin.clear_, go_sem, hz, Builtin.zeroCells, g0, g1, g2, g3, f]
theorem wn_rest_lo (a i : Nat) (h : i < 4) : wn (a / B4 * B4) i = 0 := by
  unfold wn B4
  have e : B ^ 4 = B ^ i * (B ^ (3 - i) * B) := by
    rw [← Nat.pow_succ, ← Nat.pow_add]; congr 1; omega
  rw [e]
  generalize a / (B ^ i * (B ^ (3 - i) * B)) = q
  rw [show q * (B ^ i * (B ^ (3 - i) * B)) = B ^ i * (q * B ^ (3 - i) * B) by rw [Nat.mul_left_comm, Nat.mul_assoc], Nat.mul_div_cancel_left _ (Nat.pow_pos B_pos)]
  exact Nat.mul_mod_left (q * B ^ (3 - i)) B
theorem wn_rest_hi (a j : Nat) : wn (a / B4 * B4) (4 + j) = wn a (4 + j) := by
  unfold wn B4
  rw [Nat.pow_add, ← Nat.div_div_eq_div_mul, ← Nat.div_div_eq_div_mul, Nat.mul_div_cancel _ (Nat.pow_pos B_pos)]
theorem run_eq_rest (a : Nat) (ha : a < B9) (w : World) : (Op.equalIn 10000 128 (.agg #[.int .u64 0, .int .u64 0, .int .u64 0, .int .u64 0, q64 (wn a 4), q64 (wn a 5), q64 (wn a 6), q64 (wn a 7), q64 (wn a 8)]) (.agg #[.int .u64 0, .int .u64 0, .int .u64 0, .int .u64 0, .int .u64 0, .int .u64 0, .int .u64 0, .int .u64 0, .int .u64 0])).run Tryz.prog w = .ok (decide (a < B4)) w := by
  have hr := run_eq_widez (a / B4 * B4) (Nat.lt_of_le_of_lt (Nat.div_mul_le_self _ _) ha) w
  simp only [wideV, wn_rest_lo a 0 (by omega), wn_rest_lo a 1 (by omega), wn_rest_lo a 2 (by omega), wn_rest_lo a 3 (by omega), wn_rest_hi a 0, wn_rest_hi a 1, wn_rest_hi a 2, wn_rest_hi a 3, wn_rest_hi a 4] at hr
  refine hr.trans ?_
  congr 1
  rw [decide_eq_decide]
  have := B4_pos
  constructor
  · intro h
    rcases Nat.mul_eq_zero.1 h with h | h
    · exact (Nat.div_eq_zero_iff_lt this).1 h
    · omega
  · intro h; rw [Nat.div_eq_of_lt h, Nat.zero_mul]
set_option maxHeartbeats 4000000 in
theorem narrow_yes (a : Nat) (s : Bool) (ha : a < B4) (w : World) :
    Calls Tryz.prog 112 #[wideV a, .bool s] w fun e w' => e = .returned (intV (s && !decide (a = 0)) a) ∧ Ext w w' := by
  have hz := run_eq_widez a (Nat.lt_trans ha (by decide))
  have hr := run_eq_rest a (Nat.lt_trans ha (by decide))
  have ht : decide (a < B4) = true := decide_eq_true ha
  clear ha
  generalize decide (a = 0) = db at *
  cases s
  · simp only [Bool.false_and]
    go_enter Tryz.func112, Tryz.ntmps112
    go_wp2
    refine wp_rebase fun v hv => ?_
    have hx : Ext w v := by rw [hv]; exact ext_auto
    have B1 : Blk v w.heap.size #[q64 (wn a 0), q64 (wn a 1), q64 (wn a 2), q64 (wn a 3), q64 (wn a 4), q64 (wn a 5), q64 (wn a 6), q64 (wn a 7), q64 (wn a 8)] 128 := by rw [hv]; exact blk_auto
    have BR : Blk v (w.heap.size + 1) #[.bool false, .int .u64 0, .int .u64 0, .int .u64 0, .int .u64 0] 27 := by rw [hv]; exact blk_auto
    have BO : Blk v (w.heap.size + 1 + 1) #[.bool false, .int .u64 0, .int .u64 0, .int .u64 0, .int .u64 0] 27 := by rw [hv]; exact blk_auto
    clear hv
    have hc := run_copy4 v.drew 3 (w.heap.size + 1 + 1) 1 4 w.heap.size 9 9 _ _ _ _ _ _ _ _ (by omega) (B1.drew.cell 0) (B1.drew.cell 1) (B1.drew.cell 2) (B1.drew.cell 3) (BO.drew.cell 1) (BO.drew.cell 2) (BO.drew.cell 3) (BO.drew.cell 4) BO.drew.frozen
    have lB1 := B1.lt; have cB1 := B1.cell; have fB1 := B1.frozen; have lBR := BR.lt; have cBR := BR.cell; have fBR := BR.frozen; have lBO := BO.lt; have cBO := BO.cell; have fBO := BO.frozen
    go_region
    go_wp2
    with_reducible rw [run_clear4 (y0 := q64 (wn a 0)) (y1 := q64 (wn a 1)) (y2 := q64 (wn a 2)) (y3 := q64 (wn a 3))]
    case g0 => simp [go_sem]
    case g1 => simp [go_sem]
    case g2 => simp [go_sem]
    case g3 => simp [go_sem]
    case f => intro i; simp [go_sem]
    go_simp
    go_wp2_with (go_at_call 109; refine (rmust_yes _ _).mono ?_; rintro e w' ⟨rfl, rfl⟩)
    refine bp_rebase fun u hu => ?_
    have hy : Ext w u := by rw [hu]; exact ext_auto
    have BF : Blk u (w.heap.size + 1) (ints1 false a) 27 := by rw [hu]; exact blk_auto
    clear hu
    have lBF := BF.lt; have cBF := BF.cell; have fBF := BF.frozen; clear BF
    exact bodyPost_ret (v := intV false a) (by simp [results, Tryz.results112, go_sem, cBF]) rfl ⟨rfl, hy⟩
  · simp only [Bool.true_and]
    go_enter Tryz.func112, Tryz.ntmps112
    go_wp2
    refine wp_rebase fun v hv => ?_
    have hx : Ext w v := by rw [hv]; exact ext_auto
    have B1 : Blk v w.heap.size #[q64 (wn a 0), q64 (wn a 1), q64 (wn a 2), q64 (wn a 3), q64 (wn a 4), q64 (wn a 5), q64 (wn a 6), q64 (wn a 7), q64 (wn a 8)] 128 := by rw [hv]; exact blk_auto
    have BR : Blk v (w.heap.size + 1) #[.bool false, .int .u64 0, .int .u64 0, .int .u64 0, .int .u64 0] 27 := by rw [hv]; exact blk_auto
    have BO : Blk v (w.heap.size + 1 + 1) #[.bool (!db), .int .u64 0, .int .u64 0, .int .u64 0, .int .u64 0] 27 := by rw [hv]; exact blk_auto
    clear hv
    have hc := run_copy4 v.drew 3 (w.heap.size + 1 + 1) 1 4 w.heap.size 9 9 _ _ _ _ _ _ _ _ (by omega) (B1.drew.cell 0) (B1.drew.cell 1) (B1.drew.cell 2) (B1.drew.cell 3) (BO.drew.cell 1) (BO.drew.cell 2) (BO.drew.cell 3) (BO.drew.cell 4) BO.drew.frozen
    have lB1 := B1.lt; have cB1 := B1.cell; have fB1 := B1.frozen; have lBR := BR.lt; have cBR := BR.cell; have fBR := BR.frozen; have lBO := BO.lt; have cBO := BO.cell; have fBO := BO.frozen
    go_region
    go_wp2
    with_reducible rw [run_clear4 (y0 := q64 (wn a 0)) (y1 := q64 (wn a 1)) (y2 := q64 (wn a 2)) (y3 := q64 (wn a 3))]
    case g0 => simp [go_sem]
    case g1 => simp [go_sem]
    case g2 => simp [go_sem]
    case g3 => simp [go_sem]
    case f => intro i; simp [go_sem]
    go_simp
    go_wp2_with (go_at_call 109; refine (rmust_yes _ _).mono ?_; rintro e w' ⟨rfl, rfl⟩)
    refine bp_rebase fun u hu => ?_
    have hy : Ext w u := by rw [hu]; exact ext_auto
    have BF : Blk u (w.heap.size + 1) (ints1 (!db) a) 27 := by rw [hu]; exact blk_auto
    clear hu
    have lBF := BF.lt; have cBF := BF.cell; have fBF := BF.frozen; clear BF
    exact bodyPost_ret (v := intV (!db) a) (by simp [results, Tryz.results112, go_sem, cBF]) rfl ⟨rfl, hy⟩
set_option maxHeartbeats 4000000 in
theorem narrow_no (a : Nat) (s : Bool) (ha : ¬ a < B4) (h9 : a < B9) (w : World) :
    Calls Tryz.prog 112 #[wideV a, .bool s] w fun e w' => e = givesUp 110 ∧ Ext w w' := by
  have hz := run_eq_widez a h9
  have hr := run_eq_rest a h9
  have ht : decide (a < B4) = false := decide_eq_false ha
  clear ha h9
  generalize decide (a = 0) = db at *
  cases s
  · skip
    go_enter Tryz.func112, Tryz.ntmps112
    go_wp2
    refine wp_rebase fun v hv => ?_
    have hx : Ext w v := by rw [hv]; exact ext_auto
    have B1 : Blk v w.heap.size #[q64 (wn a 0), q64 (wn a 1), q64 (wn a 2), q64 (wn a 3), q64 (wn a 4), q64 (wn a 5), q64 (wn a 6), q64 (wn a 7), q64 (wn a 8)] 128 := by rw [hv]; exact blk_auto
    have BR : Blk v (w.heap.size + 1) #[.bool false, .int .u64 0, .int .u64 0, .int .u64 0, .int .u64 0] 27 := by rw [hv]; exact blk_auto
    have BO : Blk v (w.heap.size + 1 + 1) #[.bool false, .int .u64 0, .int .u64 0, .int .u64 0, .int .u64 0] 27 := by rw [hv]; exact blk_auto
    clear hv
    have hc := run_copy4 v.drew 3 (w.heap.size + 1 + 1) 1 4 w.heap.size 9 9 _ _ _ _ _ _ _ _ (by omega) (B1.drew.cell 0) (B1.drew.cell 1) (B1.drew.cell 2) (B1.drew.cell 3) (BO.drew.cell 1) (BO.drew.cell 2) (BO.drew.cell 3) (BO.drew.cell 4) BO.drew.frozen
    have lB1 := B1.lt; have cB1 := B1.cell; have fB1 := B1.frozen; have lBR := BR.lt; have cBR := BR.cell; have fBR := BR.frozen; have lBO := BO.lt; have cBO := BO.cell; have fBO := BO.frozen
    go_region
    go_wp2
    with_reducible rw [run_clear4 (y0 := q64 (wn a 0)) (y1 := q64 (wn a 1)) (y2 := q64 (wn a 2)) (y3 := q64 (wn a 3))]
    case g0 => simp [go_sem]
    case g1 => simp [go_sem]
    case g2 => simp [go_sem]
    case g3 => simp [go_sem]
    case f => intro i; simp [go_sem]
    go_simp
    go_wp2_with (go_at_call 109; refine (rmust_no _ _).mono ?_; rintro e w' ⟨rfl, rfl⟩)
    exact ⟨rfl, rfl, ext_auto⟩
  · skip
    go_enter Tryz.func112, Tryz.ntmps112
    go_wp2
    refine wp_rebase fun v hv => ?_
    have hx : Ext w v := by rw [hv]; exact ext_auto
    have B1 : Blk v w.heap.size #[q64 (wn a 0), q64 (wn a 1), q64 (wn a 2), q64 (wn a 3), q64 (wn a 4), q64 (wn a 5), q64 (wn a 6), q64 (wn a 7), q64 (wn a 8)] 128 := by rw [hv]; exact blk_auto
    have BR : Blk v (w.heap.size + 1) #[.bool false, .int .u64 0, .int .u64 0, .int .u64 0, .int .u64 0] 27 := by rw [hv]; exact blk_auto
    have BO : Blk v (w.heap.size + 1 + 1) #[.bool (!db), .int .u64 0, .int .u64 0, .int .u64 0, .int .u64 0] 27 := by rw [hv]; exact blk_auto
    clear hv
    have hc := run_copy4 v.drew 3 (w.heap.size + 1 + 1) 1 4 w.heap.size 9 9 _ _ _ _ _ _ _ _ (by omega) (B1.drew.cell 0) (B1.drew.cell 1) (B1.drew.cell 2) (B1.drew.cell 3) (BO.drew.cell 1) (BO.drew.cell 2) (BO.drew.cell 3) (BO.drew.cell 4) BO.drew.frozen
    have lB1 := B1.lt; have cB1 := B1.cell; have fB1 := B1.frozen; have lBR := BR.lt; have cBR := BR.cell; have fBR := BR.frozen; have lBO := BO.lt; have cBO := BO.cell; have fBO := BO.frozen
    go_region
    go_wp2
    with_reducible rw [run_clear4 (y0 := q64 (wn a 0)) (y1 := q64 (wn a 1)) (y2 := q64 (wn a 2)) (y3 := q64 (wn a 3))]
    case g0 => simp [go_sem]
    case g1 => simp [go_sem]
    case g2 => simp [go_sem]
    case g3 => simp [go_sem]
    case f => intro i; simp [go_sem]
    go_simp
    go_wp2_with (go_at_call 109; refine (rmust_no _ _).mono ?_; rintro e w' ⟨rfl, rfl⟩)
    exact ⟨rfl, rfl, ext_auto⟩
end Go.Proofs.YtmopgcbhmkemjaaGreatDoor

namespace Go.Proofs.YtmopgcbhmkemjaaGreatDoor
open Go Go.RowKit
set_option linter.unusedSimpArgs false
set_option linter.unusedVariables false
set_option maxRecDepth 100000

abbrev ratV (s : Bool) (m : Nat) (t : Bool) (k : Nat) : Value :=
  .agg #[.bool s, q64 (wn m 0), q64 (wn m 1), q64 (wn m 2), q64 (wn m 3), .bool t, q64 (wn k 0), q64 (wn k 1), q64 (wn k 2), q64 (wn k 3)]
set_option maxHeartbeats 4000000 in
theorem made_yes (s : Bool) (n d : Nat) (hn : n < B9) (hd0 : 0 < d) (hd : 2 * d ≤ B9) (h1 : n / Nat.gcd n d < B4) (h2 : d / Nat.gcd n d < B4) (w : World) (hT : Tab w) :
    Calls Tryz.prog 82 #[sgnV s n, wideV d] w fun e w' => e = .returned (ratV (s && !decide (n / Nat.gcd n d = 0)) (n / Nat.gcd n d) false (d / Nat.gcd n d)) ∧ Ext w w' := by
  have cg := gcd_any n d hn (by omega)
  have g0 : 0 < Nat.gcd n d := Nat.gcd_pos_of_pos_right _ hd0
  have gd : Nat.gcd n d ≤ d := Nat.le_of_dvd hd0 (Nat.gcd_dvd_right _ _)
  have b1 := by_any n (Nat.gcd n d) hn g0 (by omega)
  have b2 := by_any d (Nat.gcd n d) (by omega) g0 (by omega)
  have n1 := narrow_yes _ s h1
  have n2 := narrow_yes _ false h2
  rw [Bool.false_and] at n2
  generalize (s && !decide (n / Nat.gcd n d = 0)) = z at *
  clear hn hd0 hd h1 h2 g0 gd
  generalize n / Nat.gcd n d = x at *
  generalize d / Nat.gcd n d = y at *
  generalize Nat.gcd n d = g at *
  go_enter Tryz.func82, Tryz.ntmps82
  go_wp2_with (go_at_call 110; refine (cg _ (((hT.alloc _).alloc _).alloc _)).mono ?_; rintro e w' ⟨rfl, d1, rfl⟩)
  (first | refine wp_region_k' [.p, .r, .r, .r, .p, .r, .r, .r, .r, .r, .r, .p, .w] (by kernel_rfl) (by kernel_rfl) ?_ | refine wp_region_k [.p, .r, .r, .r, .p, .r, .r, .r, .r, .r, .r, .p, .w] (by kernel_rfl) (by kernel_rfl) ?_); (repeat (first | (refine wpK_p rfl (fun K hK => ?_); go_simp; refine hK _ _ ?_; clear hK K) | (refine wpK_r rfl (fun K hK => ?_); go_simp; refine hK _ _ ?_; clear hK K) | (refine wpK_w rfl (fun K hK => ?_); go_simp; refine hK _ _ ?_; clear hK K) | (refine wpK_r rfl (fun K hK => ?_); go_simp; apply Exists.intro; refine ⟨fun d => ?_, hK _ _ ?_⟩; (first | (with_reducible exact Calls.calm (b1 _)) | (with_reducible exact Calls.calm (b2 _)) | (with_reducible exact Calls.calm (n1 _)) | (with_reducible exact Calls.calm (n2 _))); clear hK K))); refine wpK_nil ?_; intro d
  go_wp2
  refine bp_rebase fun u hu => ?_
  have hy : Ext w u := by rw [hu]; exact ext_auto
  have BF : Blk u (w.heap.size + 1 + 1) #[.bool z, q64 (wn x 0), q64 (wn x 1), q64 (wn x 2), q64 (wn x 3), .bool false, q64 (wn y 0), q64 (wn y 1), q64 (wn y 2), q64 (wn y 3)] 29 := by rw [hu]; exact blk_auto
  clear hu
  have lBF := BF.lt; have cBF := BF.cell; have fBF := BF.frozen; clear BF
  exact bodyPost_ret (v := ratV z x false y) (by simp [results, Tryz.results82, go_sem, cBF]) rfl ⟨rfl, hy⟩
end Go.Proofs.YtmopgcbhmkemjaaGreatDoor

namespace Go.Proofs.YtmopgcbhmkemjaaGreatDoor
open Go Go.RowKit
set_option linter.unusedSimpArgs false
set_option linter.unusedVariables false
set_option maxRecDepth 100000

set_option maxHeartbeats 8000000 in
theorem Gcd_no (s1 : Bool) (m1 : Nat) (s2 : Bool) (m2 : Nat) (h1 : m1 < B4) (h2 : m2 < B4) (g : (badI s1 m1 || badI s2 m2) = true) (w : World) :
    Calls Tryz.prog 103 #[intV s1 m1, intV s2 m2] w fun e w' => e = .returned (.tuple #[intZ 0, .int .i64 2]) ∧ Ext w w' := by
  have hmf : ∀ (fn : Fn) (first cap : Array Value) (w : World), (Instr.makeFunc fn first cap).run Tryz.prog w = .ok (.func fn first cap) w := fun _ _ _ _ => rfl
  have cr := right2_no s1 m1 s2 m2 h1 h2 g
  clear g
  go_enter_defers Tryz.func103, Tryz.ntmps103
  go_wp2_with (go_at_call 144; refine (cr _ _ _ ⟨by simp, by simp [go_sem], by simp [go_sem], by simp [go_sem], by simp [go_sem], by simp [go_sem]⟩ ⟨by simp, by simp [go_sem], by simp [go_sem], by simp [go_sem], by simp [go_sem], by simp [go_sem]⟩).mono ?_; rintro e w' ⟨rfl, d, rfl⟩)
  refine leaves_cons (f := 125) (args := #[.pointer (some ⟨w.heap.size + 1 + 1 + 1, 0, none⟩), .func (.func 143) #[] #[.pointer (some ⟨w.heap.size + 1 + 1, 0, none⟩)]]) (by simp) (by simp [go_sem]) ?_
  refine caught_pan (w.heap.size + 1 + 1 + 1) 0 2 143 _ [] _ _ (by simp [go_sem]) (by simp [go_sem]) (fun _ _ => by kernel_rfl) ?_
  go_enter Tryz.func143, Tryz.ntmps143
  go_wp2
  go_end0
  refine ⟨rfl, ?_⟩
  simp [Leaves, settle, results, Tryz.results103, go_sem]
  exact ⟨by simp [wn_zero], ext_auto⟩
end Go.Proofs.YtmopgcbhmkemjaaGreatDoor

namespace Go.Proofs.YtmopgcbhmkemjaaGreatDoor
open Go Go.RowKit
set_option linter.unusedSimpArgs false
set_option linter.unusedVariables false
set_option maxRecDepth 100000

theorem grow_alloc2 (w : World) (d : Gr) (o o' : Obj) : ((grow w d).alloc o).alloc o' = grow w ⟨(d.obs.push o).push o', d.n⟩ := by
  simp [grow, World.alloc]
set_option maxHeartbeats 8000000 in
theorem Gcd_yes (s1 : Bool) (m1 : Nat) (s2 : Bool) (m2 : Nat) (h1 : m1 < B4) (h2 : m2 < B4) (g1 : badI s1 m1 = false) (g2 : badI s2 m2 = false) (w : World) :
    Calls Tryz.prog 103 #[intV s1 m1, intV s2 m2] w fun e w' => e = .returned (.tuple #[intV false (Nat.gcd m1 m2), .int .i64 0]) ∧ Ext w w' := by
  have hmf : ∀ (fn : Fn) (first cap : Array Value) (w : World), (Instr.makeFunc fn first cap).run Tryz.prog w = .ok (.func fn first cap) w := fun _ _ _ _ => rfl
  have cr := right2_yes s1 m1 s2 m2 h1 h2 g1 g2
  go_enter_defers Tryz.func103, Tryz.ntmps103
  go_wp2_with (go_at_call 144; refine (cr _ _ _ ⟨by simp, by simp [go_sem], by simp [go_sem], by simp [go_sem], by simp [go_sem], by simp [go_sem]⟩ ⟨by simp, by simp [go_sem], by simp [go_sem], by simp [go_sem], by simp [go_sem], by simp [go_sem]⟩).mono ?_; rintro e w' ⟨rfl, d, rfl⟩)
  go_region
  · go_wp2
    go_loopg [8] m2 (fun g q wr => ∃ (x y : Nat) (d' : Gr), y ≤ g ∧ x < B4 ∧ y < B4 ∧ Hid (Nat.gcd x y = Nat.gcd m1 m2) ∧
      wr = grow (((grow (((((w.alloc (.cells (ints1 s1 m1) 27)).alloc (.cells (ints1 s2 m2) 27)).alloc (.cells #[.bool false, .int .u64 0, .int .u64 0, .int .u64 0, .int .u64 0] 27)).alloc (.cells #[.int .i64 0] 33)).alloc (.cells (ints2 s1 m1 s2 m2) 27)) ⟨d.obs, fun k => d.n k + 1⟩).alloc (magC x)).alloc (magC y)) d')
    case atStart => exact ⟨m1, m2, ⟨#[], fun k => k⟩, Nat.le_refl _, h1, h2, Lib.hid rfl, (grow_none _).symm⟩
    case round =>
      obtain ⟨x, y, d', hg, hx, hy, HX, rfl⟩ := hrel
      by_cases y0 : y = 0
      · have hd : decide (y = 0) = true := by simp [y0]
        have HF : Hid (x = Nat.gcd m1 m2) := by have := HX.out; rw [y0, Nat.gcd_zero_right] at this; exact Lib.hid this
        have co := of_any false x hx
        rw [Bool.false_and] at co
        clear HX y0
        have q2 : w.heap.size + 1 + 1 < w.heap.size + 1 + 1 + 1 + 1 + 1 + d.obs.size + 1 + 1 := by omega
        have q3 : w.heap.size + 1 + 1 + 1 < w.heap.size + 1 + 1 + 1 + 1 + 1 + d.obs.size + 1 + 1 := by omega
        go_wp2_with (go_at_call 102; refine (co _).mono ?_; rintro e w' ⟨rfl, d2, rfl⟩)
        refine leaves_cons (f := 125) (args := #[.pointer (some ⟨w.heap.size + 1 + 1 + 1, 0, none⟩), .func (.func 143) #[] #[.pointer (some ⟨w.heap.size + 1 + 1, 0, none⟩)]]) (by simp) (by simp [go_sem]) ?_
        refine (caught_idle _ _ _).mono ?_
        rintro e u' w'' ⟨rfl, rfl, rfl⟩
        rw [← HF.out]
        simp [Leaves, settle, results, Tryz.results103, go_sem, q2, q3]
        exact ext_auto
      · have hd : decide (y = 0) = false := by simp [y0]
        have cp := parts_any x y hx (by omega) hy
        have hm : x % y < y := Nat.mod_lt _ (by omega)
        have HY : Hid (Nat.gcd y (x % y) = Nat.gcd m1 m2) := by
          have := HX.out
          rw [← this, Nat.gcd_comm x y, Nat.gcd_rec y x, Nat.gcd_comm]
          exact Lib.hid rfl
        clear HX
        go_wp2_with (go_at_call 121; refine (cp _).mono ?_; rintro e w' ⟨rfl, d2, rfl⟩)
        go_region
        go_wp2
        go_roundg (x % y)
        case measure => omega
        case rel => exact ⟨y, x % y, _, Nat.le_refl _, hy, by omega, HY, by rw [grow_alloc2, drew_grow]⟩
  · go_wp2
    go_loopg [8] m2 (fun g q wr => ∃ (x y : Nat) (d' : Gr), y ≤ g ∧ x < B4 ∧ y < B4 ∧ Hid (Nat.gcd x y = Nat.gcd m1 m2) ∧
      wr = grow (((grow (((((w.alloc (.cells (ints1 s1 m1) 27)).alloc (.cells (ints1 s2 m2) 27)).alloc (.cells #[.bool false, .int .u64 0, .int .u64 0, .int .u64 0, .int .u64 0] 27)).alloc (.cells #[.int .i64 0] 33)).alloc (.cells (ints2 s1 m1 s2 m2) 27)) ⟨d.obs, fun k => d.n k + 1⟩).alloc (magC y)).alloc (magC x)) d')
    case atStart => exact ⟨m1, m2, ⟨#[], fun k => k⟩, Nat.le_refl _, h1, h2, Lib.hid rfl, (grow_none _).symm⟩
    case round =>
      obtain ⟨x, y, d', hg, hx, hy, HX, rfl⟩ := hrel
      by_cases y0 : y = 0
      · have hd : decide (y = 0) = true := by simp [y0]
        have HF : Hid (x = Nat.gcd m1 m2) := by have := HX.out; rw [y0, Nat.gcd_zero_right] at this; exact Lib.hid this
        have co := of_any false x hx
        rw [Bool.false_and] at co
        clear HX y0
        have q2 : w.heap.size + 1 + 1 < w.heap.size + 1 + 1 + 1 + 1 + 1 + d.obs.size + 1 + 1 := by omega
        have q3 : w.heap.size + 1 + 1 + 1 < w.heap.size + 1 + 1 + 1 + 1 + 1 + d.obs.size + 1 + 1 := by omega
        go_wp2_with (go_at_call 102; refine (co _).mono ?_; rintro e w' ⟨rfl, d2, rfl⟩)
        refine leaves_cons (f := 125) (args := #[.pointer (some ⟨w.heap.size + 1 + 1 + 1, 0, none⟩), .func (.func 143) #[] #[.pointer (some ⟨w.heap.size + 1 + 1, 0, none⟩)]]) (by simp) (by simp [go_sem]) ?_
        refine (caught_idle _ _ _).mono ?_
        rintro e u' w'' ⟨rfl, rfl, rfl⟩
        rw [← HF.out]
        simp [Leaves, settle, results, Tryz.results103, go_sem, q2, q3]
        exact ext_auto
      · have hd : decide (y = 0) = false := by simp [y0]
        have cp := parts_any x y hx (by omega) hy
        have hm : x % y < y := Nat.mod_lt _ (by omega)
        have HY : Hid (Nat.gcd y (x % y) = Nat.gcd m1 m2) := by
          have := HX.out
          rw [← this, Nat.gcd_comm x y, Nat.gcd_rec y x, Nat.gcd_comm]
          exact Lib.hid rfl
        clear HX
        go_wp2_with (go_at_call 121; refine (cp _).mono ?_; rintro e w' ⟨rfl, d2, rfl⟩)
        go_region
        go_wp2
        go_roundg (x % y)
        case measure => omega
        case rel => exact ⟨y, x % y, _, Nat.le_refl _, hy, by omega, HY, by rw [grow_alloc2, drew_grow]⟩
end Go.Proofs.YtmopgcbhmkemjaaGreatDoor

namespace Go.Proofs.YtmopgcbhmkemjaaGreatDoor
open Go Go.RowKit
set_option linter.unusedSimpArgs false
set_option linter.unusedVariables false
set_option maxRecDepth 100000

theorem run_eqFields_cons {P : Program} (d : Nat) (xs ys : Array Value) (f : Field) (fs : List Field) (x y : Value) (r : Bool) (w : World) (hn : f.name ≠ "_")
    (hx : (part f.type xs f.offset).run P w = .ok x w) (hy : (part f.type ys f.offset).run P w = .ok y w) (hr : (Op.equalIn d f.type x y).run P w = .ok r w) :
    (Op.eqFields d xs ys (f :: fs)).run P w = if r then (Op.eqFields d xs ys fs).run P w else .ok false w := by
  simp only [Op.eqFields, if_pos hn, Sem.run_bind, hx, hy, hr, Result.andThen_ok]
  cases r <;> simp
theorem run_eq_mag_at (t : TypeId) (ht : Tryz.prog.underlying t = some (.array 4 24)) (n a b : Nat) (ha : a < B4) (hb : b < B4) (w : World) :
    (Op.equalIn (n + 2) t (magV a) (magV b)).run Tryz.prog w = .ok (decide (a = b)) w := by
  rw [run_eq_arr4 t ht]; simp only [← eq4 ha hb]
theorem run_eq_int_at (n : Nat) (s : Bool) (a : Nat) (t : Bool) (b : Nat) (ha : a < B4) (hb : b < B4) (w : World) :
    (Op.equalIn (n + 3) 27 (intV s a) (intV t b)).run Tryz.prog w = .ok (decide (s = t ∧ a = b)) w := by
  rw [run_equalIn_struct (P := Tryz.prog) w (n + 2) 27 _ _ (by kernel_rfl) (by kernel_rfl)]
  rw [show (Tryz.prog.fieldsOf 27).toList = [⟨"Neg", 4, 0, false, "", "", 0⟩, ⟨"Mag", 25, 1, false, "", "", 8⟩] by kernel_rfl]
  rw [run_eqFields_cons _ _ _ _ _ (.bool s) (.bool t) (s == t) w (by decide) (by kernel_rfl) (by kernel_rfl) (run_equalIn_bool (P := Tryz.prog) w (n + 1) _ _ _ Tryz.underlying4)]
  rw [run_eqFields_cons _ _ _ _ _ (magV a) (magV b) (decide (a = b)) w (by decide) (by kernel_rfl) (by kernel_rfl) (run_eq_mag_at _ Tryz.underlying25 n a b ha hb w)]
  cases s <;> cases t <;> by_cases h : a = b <;> simp [h, Op.eqFields]
@[go_sem] theorem run_eq_int (s : Bool) (a : Nat) (t : Bool) (b : Nat) (ha : a < B4) (hb : b < B4) (w : World) :
    (Op.equalIn 10000 27 (intV s a) (intV t b)).run Tryz.prog w = .ok (decide (s = t ∧ a = b)) w := run_eq_int_at 9997 s a t b ha hb w
end Go.Proofs.YtmopgcbhmkemjaaGreatDoor

namespace Go.Proofs.YtmopgcbhmkemjaaGreatDoor
open Go Go.RowKit
set_option linter.unusedSimpArgs false
set_option linter.unusedVariables false
set_option maxRecDepth 100000

/-- May a Rat of these words be? -/
def okR (s : Bool) (m : Nat) (t : Bool) (k : Nat) : Bool := !(badI s m) && !(badI t k) && decide (sgn t k > 0) && decide (Nat.gcd m k = 1)
theorem okR_iff (s : Bool) (m : Nat) (t : Bool) (k : Nat) : okR s m t k = true ↔ (s = true → m ≠ 0) ∧ t = false ∧ 0 < k ∧ Nat.gcd m k = 1 := by
  unfold okR badI sgn
  by_cases hk : k = 0 <;> cases s <;> cases t <;> by_cases hm : m = 0 <;> simp [hk, hm] <;> omega

set_option maxHeartbeats 4000000 in
theorem right_bad (s : Bool) (m : Nat) (t : Bool) (k : Nat) (hm : m < B4) (hk : k < B4) (g : (badI s m || badI t k) = true) (w : World) :
    Calls Tryz.prog 75 #[ratV s m t k] w fun e w' => e = .returned (.bool false) ∧ Ext w w' := by
  have cg := Gcd_no s m t k hm hk g
  simp only [show intZ 0 = .agg #[.bool false, .int .u64 0, .int .u64 0, .int .u64 0, .int .u64 0] by simp [intZ, intV, wn_zero]] at cg
  clear hm hk g
  go_enter Tryz.func75, Tryz.ntmps75
  go_wp2_with (go_at_call 103; refine (cg _).mono ?_; rintro e w' ⟨rfl, d, rfl⟩)
  refine wp_rebase fun v hv => ?_
  have hx : Ext w v := by rw [hv]; exact ext_auto
  clear hv
  (first | refine wp_region_k' [.p, .p, .p, .p, .p, .r, .r, .p, .p, .p, .r, .r, .p, .p, .p] (by kernel_rfl) (by kernel_rfl) ?_ | refine wp_region_k [.p, .p, .p, .p, .p, .r, .r, .p, .p, .p, .r, .r, .p, .p, .p] (by kernel_rfl) (by kernel_rfl) ?_); (repeat (first | (refine wpK_p rfl (fun K hK => ?_); go_simp; refine hK _ _ ?_; clear hK K) | (refine wpK_r rfl (fun K hK => ?_); go_simp; refine hK _ _ ?_; clear hK K) | (refine wpK_w rfl (fun K hK => ?_); go_simp; refine hK _ _ ?_; clear hK K) | (refine wpK_skip ?_ ?_; (· (simp [go_sem, Region.wanted, yielded]; done))) | (refine wpK_want ?_ ?_; (· (simp [go_sem, Region.wanted, yielded]; done))))); refine wpK_nil ?_; intro d
  go_wp2
  go_ret
  exact ⟨rfl, ext_auto⟩
set_option maxHeartbeats 4000000 in
theorem right_sgn (s : Bool) (m : Nat) (t : Bool) (k : Nat) (hm : m < B4) (hk : k < B4) (g1 : badI s m = false) (g2 : badI t k = false) (h : decide (sgn t k > 0) = false) (w : World) :
    Calls Tryz.prog 75 #[ratV s m t k] w fun e w' => e = .returned (.bool false) ∧ Ext w w' := by
  have cg := Gcd_yes s m t k hm hk g1 g2
  have cs := sign_any t k hk
  generalize Nat.gcd m k = g at *
  generalize sgn t k = c at *
  clear hm hk g1 g2
  go_enter Tryz.func75, Tryz.ntmps75
  go_wp2_with (go_at_call 103; refine (cg _).mono ?_; rintro e w' ⟨rfl, d, rfl⟩)
  refine wp_rebase fun v hv => ?_
  have hx : Ext w v := by rw [hv]; exact ext_auto
  have B1 : Blk v w.heap.size #[.bool s, q64 (wn m 0), q64 (wn m 1), q64 (wn m 2), q64 (wn m 3), .bool t, q64 (wn k 0), q64 (wn k 1), q64 (wn k 2), q64 (wn k 3)] 121 := by rw [hv]; exact blk_auto
  clear hv
  have lB1 := B1.lt; have cB1 := B1.cell; have fB1 := B1.frozen
  (first | refine wp_region_k' [.p, .p, .p, .p, .p, .r, .r, .p, .p, .p, .r, .r, .p, .p, .p] (by kernel_rfl) (by kernel_rfl) ?_ | refine wp_region_k [.p, .p, .p, .p, .p, .r, .r, .p, .p, .p, .r, .r, .p, .p, .p] (by kernel_rfl) (by kernel_rfl) ?_); (repeat (first | (refine wpK_p rfl (fun K hK => ?_); go_simp; refine hK _ _ ?_; clear hK K) | (refine wpK_r rfl (fun K hK => ?_); go_simp; refine hK _ _ ?_; clear hK K) | (refine wpK_w rfl (fun K hK => ?_); go_simp; refine hK _ _ ?_; clear hK K) | (refine wpK_r rfl (fun K hK => ?_); go_simp; apply Exists.intro; refine ⟨fun d => ?_, hK _ _ ?_⟩; (with_reducible exact Calls.calm (cs _)); clear hK K) | (refine wpK_skip ?_ ?_; (· (simp [go_sem, Region.wanted, yielded]; done))) | (refine wpK_want ?_ ?_; (· (simp [go_sem, Region.wanted, yielded]; done))))); refine wpK_nil ?_; intro d
  go_wp2
  go_ret
  exact ⟨rfl, ext_auto⟩
set_option maxHeartbeats 4000000 in
theorem right_yes (s : Bool) (m : Nat) (t : Bool) (k : Nat) (hm : m < B4) (hk : k < B4) (g1 : badI s m = false) (g2 : badI t k = false) (h : decide (sgn t k > 0) = true) (w : World) :
    Calls Tryz.prog 75 #[ratV s m t k] w fun e w' => e = .returned (.bool (decide (Nat.gcd m k = 1))) ∧ Ext w w' := by
  have cg := Gcd_yes s m t k hm hk g1 g2
  have cs := sign_any t k hk
  have c1 := Of_nat 1 (by decide)
  have hgB : Nat.gcd m k < B4 := by
    have hk0 : 0 < k := by
      rcases Nat.eq_zero_or_pos k with h0 | h0
      · simp [sgn, h0] at h
      · exact h0
    exact Nat.lt_of_le_of_lt (Nat.le_of_dvd hk0 (Nat.gcd_dvd_right _ _)) hk
  have he := run_eq_int false (Nat.gcd m k) false 1 hgB (by decide)
  simp only [true_and] at he
  generalize decide (Nat.gcd m k = 1) = z at *
  generalize Nat.gcd m k = g at *
  generalize sgn t k = c at *
  clear hm hk g1 g2 hgB
  simp only [Int.natCast_one] at c1
  go_enter Tryz.func75, Tryz.ntmps75
  go_wp2_with (go_at_call 103; refine (cg _).mono ?_; rintro e w' ⟨rfl, d, rfl⟩)
  refine wp_rebase fun v hv => ?_
  have hx : Ext w v := by rw [hv]; exact ext_auto
  have B1 : Blk v w.heap.size #[.bool s, q64 (wn m 0), q64 (wn m 1), q64 (wn m 2), q64 (wn m 3), .bool t, q64 (wn k 0), q64 (wn k 1), q64 (wn k 2), q64 (wn k 3)] 121 := by rw [hv]; exact blk_auto
  have B3 : Blk v (w.heap.size + 1 + d.obs.size) #[.bool false, q64 (wn g 0), q64 (wn g 1), q64 (wn g 2), q64 (wn g 3)] 27 := by rw [hv]; exact blk_auto
  clear hv
  have lB1 := B1.lt; have cB1 := B1.cell; have fB1 := B1.frozen; have lB3 := B3.lt; have cB3 := B3.cell; have fB3 := B3.frozen
  (first | refine wp_region_k' [.p, .p, .p, .p, .p, .r, .r, .p, .p, .p, .r, .r, .p, .p, .p] (by kernel_rfl) (by kernel_rfl) ?_ | refine wp_region_k [.p, .p, .p, .p, .p, .r, .r, .p, .p, .p, .r, .r, .p, .p, .p] (by kernel_rfl) (by kernel_rfl) ?_); (repeat (first | (refine wpK_p rfl (fun K hK => ?_); go_simp; refine hK _ _ ?_; clear hK K) | (refine wpK_r rfl (fun K hK => ?_); go_simp; refine hK _ _ ?_; clear hK K) | (refine wpK_w rfl (fun K hK => ?_); go_simp; refine hK _ _ ?_; clear hK K) | (refine wpK_r rfl (fun K hK => ?_); go_simp; apply Exists.intro; refine ⟨fun d => ?_, hK _ _ ?_⟩; (first | (with_reducible exact Calls.calm (cs _)) | (with_reducible exact Calls.calm (c1 _))); clear hK K) | (refine wpK_skip ?_ ?_; (· (simp [go_sem, Region.wanted, yielded]; done))) | (refine wpK_want ?_ ?_; (· (simp [go_sem, Region.wanted, yielded]; done))))); refine wpK_nil ?_; intro d
  go_wp2
  go_ret
  exact ⟨rfl, ext_auto⟩
end Go.Proofs.YtmopgcbhmkemjaaGreatDoor

namespace Go.Proofs.YtmopgcbhmkemjaaGreatDoor
open Go Go.RowKit
set_option linter.unusedSimpArgs false
set_option linter.unusedVariables false
set_option maxRecDepth 100000

theorem right_any (s : Bool) (m : Nat) (t : Bool) (k : Nat) (hm : m < B4) (hk : k < B4) (w : World) :
    Calls Tryz.prog 75 #[ratV s m t k] w fun e w' => e = .returned (.bool (okR s m t k)) ∧ Ext w w' := by
  unfold okR
  cases g1 : badI s m with
  | true => simpa [g1] using right_bad s m t k hm hk (by simp [g1]) w
  | false =>
    cases g2 : badI t k with
    | true => simpa [g2] using right_bad s m t k hm hk (by simp [g2]) w
    | false =>
      cases h : decide (sgn t k > 0) with
      | false => simpa using right_sgn s m t k hm hk g1 g2 h w
      | true => simpa using right_yes s m t k hm hk g1 g2 h w
theorem rcheck_yes (s : Bool) (m : Nat) (t : Bool) (k : Nat) (hm : m < B4) (hk : k < B4) (h : okR s m t k = true) (w : World) :
    Calls Tryz.prog 40 #[ratV s m t k] w fun e w' => e = .returned (.int .i64 0) ∧ Ext w w' := by
  have cr := right_any s m t k hm hk
  rw [h] at cr
  clear h hm hk
  go_enter Tryz.func40, Tryz.ntmps40
  go_wp2_with (go_at_call 75; refine (cr _).mono ?_; rintro e w' ⟨rfl, d, rfl⟩)
  go_ret
  exact ⟨rfl, ext_auto⟩
theorem rcheck_no (s : Bool) (m : Nat) (t : Bool) (k : Nat) (hm : m < B4) (hk : k < B4) (h : okR s m t k = false) (w : World) :
    Calls Tryz.prog 40 #[ratV s m t k] w fun e w' => e = .returned (.int .i64 2) ∧ Ext w w' := by
  have cr := right_any s m t k hm hk
  rw [h] at cr
  clear h hm hk
  go_enter Tryz.func40, Tryz.ntmps40
  go_wp2_with (go_at_call 75; refine (cr _).mono ?_; rintro e w' ⟨rfl, d, rfl⟩)
  go_ret
  exact ⟨rfl, ext_auto⟩

abbrev ratsV (s : Bool) (m : Nat) (t : Bool) (k : Nat) : Array Value :=
  #[.bool s, q64 (wn m 0), q64 (wn m 1), q64 (wn m 2), q64 (wn m 3), .bool t, q64 (wn k 0), q64 (wn k 1), q64 (wn k 2), q64 (wn k 3)]
theorem one_any (w : World) : Calls Tryz.prog 93 #[] w fun e w' => e = .returned (intV false 1) ∧ Ext w w' := by
  have c1 := Of_nat 1 (by decide)
  simp only [Int.natCast_one] at c1
  go_enter Tryz.func93, Tryz.ntmps93
  go_wp2_with (go_at_call 68; refine (c1 _).mono ?_; rintro e w' ⟨rfl, d, rfl⟩)
  exact bodyPost_ret (v := intV false 1) (by simp [results, Tryz.results93, go_sem]) rfl ⟨rfl, ext_auto⟩
set_option maxHeartbeats 4000000 in
theorem rOf_at (z : Int) (s : Bool) (m : Nat) (c : ∀ w, Calls Tryz.prog 68 #[.int .i64 z] w fun e w' => e = .returned (intV s m) ∧ Ext w w') (w : World) :
    Calls Tryz.prog 33 #[.int .i64 z] w fun e w' => e = .returned (ratV s m false 1) ∧ Ext w w' := by
  have c1 := Of_nat 1 (by decide)
  simp only [Int.natCast_one] at c1
  go_enter Tryz.func33, Tryz.ntmps33
  go_wp2_with (go_at_call 68; (first | (with_reducible refine (c _).mono ?_) | (with_reducible refine (c1 _).mono ?_)); rintro e w' ⟨rfl, d, rfl⟩)
  exact bodyPost_ret (v := ratV s m false 1) (by simp [results, Tryz.results33, go_sem]) rfl ⟨rfl, ext_auto⟩
set_option maxHeartbeats 4000000 in
theorem times_any (s : Bool) (m : Nat) (t : Bool) (k : Nat) (hm : m < B4) (hk : k < B4) (w : World) :
    Calls Tryz.prog 83 #[intV s m, intV t k] w fun e w' => e = .returned (sgnV (!(s == t)) (m * k)) ∧ Ext w w' := by
  have cp := product_any s t m k hm hk
  clear hm hk
  generalize m * k = x at *
  go_enter Tryz.func83, Tryz.ntmps83
  go_wp2
  (first | refine wp_region_k' [.r, .r, .r, .p, .r, .p, .r, .p, .p, .w] (by kernel_rfl) (by kernel_rfl) ?_ | refine wp_region_k [.r, .r, .r, .p, .r, .p, .r, .p, .p, .w] (by kernel_rfl) (by kernel_rfl) ?_); (repeat (first | (refine wpK_p rfl (fun K hK => ?_); go_simp; refine hK _ _ ?_; clear hK K) | (refine wpK_r rfl (fun K hK => ?_); go_simp; refine hK _ _ ?_; clear hK K) | (refine wpK_w rfl (fun K hK => ?_); go_simp; refine hK _ _ ?_; clear hK K) | (refine wpK_r rfl (fun K hK => ?_); go_simp; apply Exists.intro; refine ⟨fun d => ?_, hK _ _ ?_⟩; (with_reducible exact Calls.calm (cp _)); clear hK K))); refine wpK_nil ?_; intro d
  go_wp2
  exact bodyPost_ret (v := sgnV (!(s == t)) x) (by simp [results, Tryz.results83, go_sem]) rfl ⟨rfl, ext_auto⟩
end Go.Proofs.YtmopgcbhmkemjaaGreatDoor

namespace Go.Proofs.YtmopgcbhmkemjaaGreatDoor
open Go Go.RowKit
set_option linter.unusedSimpArgs false
set_option linter.unusedVariables false
set_option maxRecDepth 100000

/-- The words of a Rat. -/
structure Rt where
  s : Bool
  m : Nat
  t : Bool
  k : Nat
  hm : m < B4
  hk : k < B4
abbrev Rt.v (r : Rt) : Value := ratV r.s r.m r.t r.k
abbrev Rt.c (r : Rt) : Array Value := ratsV r.s r.m r.t r.k
def Rt.ok (r : Rt) : Bool := okR r.s r.m r.t r.k
/-- A Rat lies in a block from a cell on. -/
structure RatAt (w : World) (b o : Nat) (r : Rt) : Prop where
  lt : b < w.heap.size
  c0 : w.cell? ⟨b, o, none⟩ = some (.bool r.s)
  c1 : w.cell? ⟨b, o + 1, none⟩ = some (q64 (wn r.m 0))
  c2 : w.cell? ⟨b, o + 2, none⟩ = some (q64 (wn r.m 1))
  c3 : w.cell? ⟨b, o + 3, none⟩ = some (q64 (wn r.m 2))
  c4 : w.cell? ⟨b, o + 4, none⟩ = some (q64 (wn r.m 3))
  c5 : w.cell? ⟨b, o + 5, none⟩ = some (.bool r.t)
  c6 : w.cell? ⟨b, o + 6, none⟩ = some (q64 (wn r.k 0))
  c7 : w.cell? ⟨b, o + 7, none⟩ = some (q64 (wn r.k 1))
  c8 : w.cell? ⟨b, o + 8, none⟩ = some (q64 (wn r.k 2))
  c9 : w.cell? ⟨b, o + 9, none⟩ = some (q64 (wn r.k 3))
theorem RatAt.ext {w w' : World} {b o : Nat} {r : Rt} (h : RatAt w b o r) (hx : Ext w w') : RatAt w' b o r :=
  ⟨Nat.lt_of_lt_of_le h.lt hx.size, hx.cell h.c0, hx.cell h.c1, hx.cell h.c2, hx.cell h.c3, hx.cell h.c4, hx.cell h.c5, hx.cell h.c6, hx.cell h.c7, hx.cell h.c8, hx.cell h.c9⟩

set_option maxHeartbeats 4000000 in
theorem all_yes (n : Nat) (f : Nat → Rt) (w : World) (b o cap : Nat) (hn : n ≤ 1000000) (hb : b < w.heap.size) (hr : ∀ i, i < n → RatAt w b (o + i * 10) (f i)) (hok : ∀ i, i < n → (f i).ok = true) :
    Calls Tryz.prog 81 #[.slice (some ⟨b, o, none⟩) n cap] w fun e w' => e = .returned (.tuple #[]) ∧ Ext w w' := by
  go_enter Tryz.func81, Tryz.ntmps81
  go_wp2
  go_loopg [6] n (fun g i wr => ∃ (k : Nat) (d : Gr), g = n - k ∧ k ≤ n ∧ i = .int .i64 k ∧ wr = grow w d)
  case atStart => exact ⟨0, ⟨#[], fun k => k⟩, rfl, by omega, rfl, (grow_none _).symm⟩
  case round =>
    obtain ⟨k, d, hg, hk, rfl, rfl⟩ := hrel
    by_cases hlt : k < n
    · obtain ⟨hb', c0, c1, c2, c3, c4, c5, c6, c7, c8, c9⟩ := hr k hlt
      have ck := rcheck_yes (f k).s (f k).m (f k).t (f k).k (f k).hm (f k).hk (hok k hlt)
      clear hr hok
      go_wp2_with (first
        | (go_at_call 40; (with_reducible refine (ck _).mono ?_); rintro e w' ⟨rfl, d2, rfl⟩)
        | (go_at_call 109; refine (rmust_yes _ _).mono ?_; rintro e w' ⟨rfl, rfl⟩))
      go_roundg (n - (k + 1))
      case measure => omega
      case rel => exact ⟨k + 1, _, rfl, by omega, by go_num, grow_alloc_grow _ _ _ _⟩
    · clear hr hok
      go_wp2
      go_end0
      exact ⟨rfl, ext_auto⟩
set_option maxHeartbeats 4000000 in
theorem all_no (n : Nat) (f : Nat → Rt) (w : World) (b o cap : Nat) (hn : n ≤ 1000000) (hb : b < w.heap.size) (hr : ∀ i, i < n → RatAt w b (o + i * 10) (f i)) (j : Nat) (hj : j < n) (hok : ∀ i, i < j → (f i).ok = true) (hno : (f j).ok = false) :
    Calls Tryz.prog 81 #[.slice (some ⟨b, o, none⟩) n cap] w fun e w' => e = givesUp 2 ∧ Ext w w' := by
  go_enter Tryz.func81, Tryz.ntmps81
  go_wp2
  go_loopg [6] n (fun g i wr => ∃ (k : Nat) (d : Gr), g = n - k ∧ k ≤ j ∧ i = .int .i64 k ∧ wr = grow w d)
  case atStart => exact ⟨0, ⟨#[], fun k => k⟩, rfl, by omega, rfl, (grow_none _).symm⟩
  case round =>
    obtain ⟨k, d, hg, hk, rfl, rfl⟩ := hrel
    have hlt : k < n := by omega
    obtain ⟨hb', c0, c1, c2, c3, c4, c5, c6, c7, c8, c9⟩ := hr k hlt
    by_cases hkj : k = j
    · subst hkj
      have ck := rcheck_no (f k).s (f k).m (f k).t (f k).k (f k).hm (f k).hk hno
      clear hr hok hno
      go_wp2_with (first
        | (go_at_call 40; (with_reducible refine (ck _).mono ?_); rintro e w' ⟨rfl, d2, rfl⟩)
        | (go_at_call 109; refine (rmust_no _ _).mono ?_; rintro e w' ⟨rfl, rfl⟩))
      exact ⟨rfl, rfl, ext_auto⟩
    · have ck := rcheck_yes (f k).s (f k).m (f k).t (f k).k (f k).hm (f k).hk (hok k (by omega))
      clear hr hok hno
      go_wp2_with (first
        | (go_at_call 40; (with_reducible refine (ck _).mono ?_); rintro e w' ⟨rfl, d2, rfl⟩)
        | (go_at_call 109; refine (rmust_yes _ _).mono ?_; rintro e w' ⟨rfl, rfl⟩))
      go_roundg (n - (k + 1))
      case measure => omega
      case rel => exact ⟨k + 1, _, rfl, by omega, by go_num, grow_alloc_grow _ _ _ _⟩
/-- The first that may not be, if there is one. -/
theorem first_no (n : Nat) (p : Nat → Bool) : (∀ i, i < n → p i = true) ∨ ∃ j, j < n ∧ p j = false ∧ ∀ i, i < j → p i = true := by
  induction n with
  | zero => exact .inl fun i h => absurd h (by omega)
  | succ n ih =>
    rcases ih with h | ⟨j, hj, h1, h2⟩
    · cases e : p n with
      | true =>
        refine .inl fun i hi => ?_
        rcases Nat.lt_or_ge i n with h' | h'
        · exact h i h'
        · obtain rfl : i = n := by omega
          exact e
      | false => exact .inr ⟨n, by omega, e, h⟩
    · exact .inr ⟨j, by omega, h1, h2⟩
end Go.Proofs.YtmopgcbhmkemjaaGreatDoor

namespace Go.Proofs.YtmopgcbhmkemjaaGreatDoor
open Go Go.RowKit
set_option linter.unusedSimpArgs false
set_option linter.unusedVariables false

/-- The number of a sign and a magnitude. -/
def sv (s : Bool) (m : Nat) : Int := if s then -(m : Int) else (m : Int)
theorem sv_natAbs (s : Bool) (m : Nat) : (sv s m).natAbs = m := by cases s <;> simp [sv]
theorem sv_neg (s : Bool) (m : Nat) : decide (sv s m < 0) = (s && !decide (m = 0)) := by
  cases s with
  | false => simp [sv]
  | true =>
    by_cases h : m = 0
    · simp [sv, h]
    · have : 0 < m := by omega
      simp [sv, h]; omega
theorem sv_of (z : Int) : sv (decide (z < 0)) z.natAbs = z := by
  unfold sv; by_cases h : z < 0 <;> simp [h] <;> omega
theorem sv_splus (s : Bool) (a : Nat) (t : Bool) (b : Nat) : sv (splus s a t b).1 (splus s a t b).2 = sv s a + sv t b := by
  unfold splus
  by_cases hst : s = t
  · subst hst; simp only [if_true]; cases s <;> simp [sv] <;> omega
  · rw [if_neg hst]
    obtain rfl : t = !s := by cases s <;> cases t <;> simp_all
    split <;> cases s <;> simp [sv] <;> omega
theorem sv_times (s : Bool) (m : Nat) (t : Bool) (k : Nat) : sv (!(s == t)) (m * k) = sv s m * sv t k := by
  cases s <;> cases t <;> simp [sv, Int.neg_mul, Int.mul_neg]
/-- A rational that an api.Rat can hold. -/
def Fits (q : Rat) : Prop := q.num.natAbs < B4 ∧ q.den < B4
instance (q : Rat) : Decidable (Fits q) := inferInstanceAs (Decidable (_ ∧ _))
abbrev qV (q : Rat) : Value := ratV (decide (q.num < 0)) q.num.natAbs false q.den
abbrev qZ : Value := .agg #[.bool false, .int .u64 0, .int .u64 0, .int .u64 0, .int .u64 0, .bool false, .int .u64 0, .int .u64 0, .int .u64 0, .int .u64 0]
theorem mk_parts (z : Int) (d : Nat) (hd : d ≠ 0) : (mkRat z d).num = z / (Nat.gcd z.natAbs d : Nat) ∧ (mkRat z d).den = d / Nat.gcd z.natAbs d := by
  rw [← Rat.normalize_eq_mkRat hd, Rat.normalize_eq]; exact ⟨rfl, rfl⟩
theorem mk_abs (z : Int) (d : Nat) (hd : d ≠ 0) : (mkRat z d).num.natAbs = z.natAbs / Nat.gcd z.natAbs d := by
  rw [(mk_parts z d hd).1]
  rw [Int.natAbs_ediv_of_dvd]
  · simp
  · exact Int.ofNat_dvd_left.2 (Nat.gcd_dvd_left _ _)
theorem mk_sign (z : Int) (d : Nat) (hd : d ≠ 0) : decide ((mkRat z d).num < 0) = (decide (z < 0) && !decide (z.natAbs / Nat.gcd z.natAbs d = 0)) := by
  have g0 : 0 < Nat.gcd z.natAbs d := Nat.gcd_pos_of_pos_right _ (by omega)
  have ha := mk_abs z d hd
  have hn := (mk_parts z d hd).1
  have h0 : z.natAbs / Nat.gcd z.natAbs d = 0 ↔ z = 0 := by
    rw [Nat.div_eq_zero_iff_lt g0]
    constructor
    · intro h
      have := Nat.le_of_dvd (n := z.natAbs) (m := Nat.gcd z.natAbs d)
      by_cases hz : z = 0
      · exact hz
      · have := this (by omega) (Nat.gcd_dvd_left _ _); omega
    · rintro rfl; exact g0
  rw [show decide (z.natAbs / Nat.gcd z.natAbs d = 0) = decide (z = 0) from decide_eq_decide.2 h0]
  rw [hn]
  by_cases hz : z < 0
  · have h1 : z / ((Nat.gcd z.natAbs d : Nat) : Int) < 0 := Int.ediv_neg_of_neg_of_pos hz (by omega)
    have h2 : ¬ z = 0 := by omega
    simp [hz, h1, h2]
  · have h1 : ¬ z / ((Nat.gcd z.natAbs d : Nat) : Int) < 0 := by
      have := Int.ediv_nonneg (a := z) (b := ((Nat.gcd z.natAbs d : Nat) : Int)) (by omega) (by omega)
      omega
    simp [hz, h1]
/-- An api.Rat that may be is that of a rational. -/
def Rt.q (r : Rt) : Rat := mkRat (sv r.s r.m) r.k
theorem Rt.q_parts (r : Rt) (h : r.ok = true) : r.q.num = sv r.s r.m ∧ r.q.den = r.k ∧ r.t = false ∧ r.s = decide (r.q.num < 0) ∧ 0 < r.k := by
  obtain ⟨h1, h2, h3, h4⟩ := (okR_iff _ _ _ _).1 h
  have hp := mk_parts (sv r.s r.m) r.k (by omega)
  rw [sv_natAbs, h4] at hp
  simp only [Int.natCast_one, Int.ediv_one, Nat.div_one] at hp
  refine ⟨hp.1, hp.2, h2, ?_, h3⟩
  show r.s = decide ((mkRat (sv r.s r.m) r.k).num < 0)
  rw [hp.1, sv_neg]
  cases hs : r.s with
  | false => rfl
  | true => simp [h1 hs]
theorem Rt.v_q (r : Rt) (h : r.ok = true) : r.v = qV r.q := by
  obtain ⟨h1, h2, h3, h4, _⟩ := r.q_parts h
  have : r.q.num.natAbs = r.m := by rw [h1, sv_natAbs]
  show ratV r.s r.m r.t r.k = ratV _ _ _ _
  rw [← h4, this, h2, h3]
theorem Rt.q_fits (r : Rt) (h : r.ok = true) : Fits r.q := by
  obtain ⟨h1, h2, h3, h4, _⟩ := r.q_parts h
  exact ⟨by rw [h1, sv_natAbs]; exact r.hm, by rw [h2]; exact r.hk⟩
/-- The words of a rational. -/
def rt (q : Rat) (h : Fits q) : Rt := ⟨decide (q.num < 0), q.num.natAbs, false, q.den, h.1, h.2⟩
theorem rt_ok (q : Rat) (h : Fits q) : (rt q h).ok = true := by
  refine (okR_iff _ _ _ _).2 ⟨fun hs => ?_, rfl, Nat.pos_of_ne_zero q.den_nz, q.reduced⟩
  have : q.num < 0 := by simpa [rt] using hs
  show q.num.natAbs ≠ 0
  omega
theorem rt_q (q : Rat) (h : Fits q) : (rt q h).q = q := by
  obtain ⟨h1, h2, _⟩ := (rt q h).q_parts (rt_ok q h)
  refine Rat.ext ?_ h2
  rw [h1]; exact sv_of q.num
end Go.Proofs.YtmopgcbhmkemjaaGreatDoor

namespace Go.Proofs.YtmopgcbhmkemjaaGreatDoor
open Go Go.RowKit
set_option linter.unusedSimpArgs false
set_option linter.unusedVariables false
set_option maxRecDepth 100000

theorem must_ratio_yes (e : Int) (w : World) : Calls Tryz.prog 109 #[.bool true, .int .i64 e] w fun e' w' => e' = .returned (.tuple #[]) ∧ w' = w := by
  go_enter Tryz.func109, Tryz.ntmps109
  go_wp2
  go_end0
  exact ⟨rfl, rfl⟩
theorem must_ratio_no (e : Int) (w : World) : Calls Tryz.prog 109 #[.bool false, .int .i64 e] w fun e' w' => e' = givesUp e ∧ w' = w := by
  go_enter Tryz.func109, Tryz.ntmps109
  go_wp2
  exact ⟨rfl, rfl, rfl⟩
theorem caught_ratio_idle (p : Addr) (fv : Value) (w : World) :
    CallsD Tryz.prog 79 #[.pointer (some p), fv] .returning w fun e u' w' => e = .returned (.tuple #[]) ∧ u' = .returning ∧ w' = w := by
  refine callsD_of_wpS Tryz.func79 rfl fun c₀ cs hu => ?_
  apply wpS_seq
  apply wpS_region
  simp [wpOpsS, go_sem, recoverD, hu, Tryz.ntmps79, Exit.thenS]
  apply wpS_seq
  apply wpS_region
  simp [wpOpsS, go_sem, Exit.thenS]
  refine wpS_cond (t := false) (by simp [Act.eval, Array.replicate]) ?_
  simp only [Bool.false_eq_true, if_false]
  refine wpS_of_wp (wp_skip ?_)
  cases c₀
  simp_all [bodyPostS, results, Tryz.results79]
theorem caught_ratio_pan (pb : Nat) (x e : Int) (g : Nat) (caps : Array Value) (older : List PanicEntry) (w : World) (R : Ending → FrameMode → World → Prop) (hc : w.cell? ⟨pb, 0, none⟩ = some (.int .i64 x)) (hz : w.frozen? ⟨pb, 0, none⟩ = false)
    (eg : ∀ args w, (callFunc g args).run Tryz.prog w = .ok (.enter g args) w)
    (hg : Calls Tryz.prog g caps (w.setCell ⟨pb, 0, none⟩ (.int .i64 e)) fun e' w' => e' = .returned (.tuple #[]) ∧ R (.returned (.tuple #[])) (.panicking ({ v := .iface 33 (.int .i64 e), recovered := true } :: older)) w') :
    CallsD Tryz.prog 79 #[.pointer (some ⟨pb, 0, none⟩), .func (.func g) #[] caps] (.panicking ({ v := .iface 33 (.int .i64 e), recovered := false } :: older)) w R := by
  have hta : ∀ w, (Instr.typeAssert (.iface 33 (.int .i64 e)) 20 33 false).run Tryz.prog w = .ok (.int .i64 e) w := fun w => by kernel_rfl
  refine callsD_of_wpS Tryz.func79 rfl fun c₀ cs hu => ?_
  apply wpS_seq
  apply wpS_region
  simp [wpOpsS, go_sem, recoverD, hu, Tryz.ntmps79, Exit.thenS]
  apply wpS_seq
  apply wpS_region
  simp [wpOpsS, go_sem, Exit.thenS]
  refine wpS_cond (t := true) (by simp [Act.eval, Array.replicate]) ?_
  simp only [if_true]
  refine wpS_of_wp ?_
  go_wp2
  refine hg.mono ?_
  rintro e' w' ⟨rfl, hR⟩
  go_wp2
  simpa [bodyPostS, results, Tryz.results79] using hR
theorem leaves_ratio {fn : Func} {tmps : Array Value} {R : Ending → World → Prop} {p : Addr} {fv : Value} {w : World} (v : Value)
    (hr : (results fn tmps).run Tryz.prog w = .ok v w) (h : R (.returned v) w) :
    Leaves Tryz.prog fn tmps R [{ target := .fn (.func 79) #[], args := #[.pointer (some p), fv] }] .returning w := by
  refine leaves_cons (f := 79) (args := #[.pointer (some p), fv]) (by simp) (by simp [go_sem]) ?_
  refine (caught_ratio_idle _ _ _).mono ?_
  rintro e u' w'' ⟨rfl, rfl, rfl⟩
  simp only [Leaves, settle]
  exact ⟨v, hr, h⟩
theorem leaves_ratio_pan {fn : Func} {tmps : Array Value} {R : Ending → World → Prop} {pb : Nat} (x e : Int) (g : Nat) (caps : Array Value) {w : World}
    (hc : w.cell? ⟨pb, 0, none⟩ = some (.int .i64 x)) (hz : w.frozen? ⟨pb, 0, none⟩ = false)
    (eg : ∀ args w, (callFunc g args).run Tryz.prog w = .ok (.enter g args) w)
    (hg : Calls Tryz.prog g caps (w.setCell ⟨pb, 0, none⟩ (.int .i64 e)) fun e' w' => e' = .returned (.tuple #[]) ∧ ∃ v, (results fn tmps).run Tryz.prog w' = .ok v w' ∧ R (.returned v) w') :
    Leaves Tryz.prog fn tmps R [{ target := .fn (.func 79) #[], args := #[.pointer (some ⟨pb, 0, none⟩), .func (.func g) #[] caps] }] (.panicking [{ v := .iface 33 (.int .i64 e), recovered := false }]) w := by
  refine leaves_cons (f := 79) (args := #[.pointer (some ⟨pb, 0, none⟩), .func (.func g) #[] caps]) (by simp) (by simp [go_sem]) ?_
  refine caught_ratio_pan pb x e g _ [] _ _ hc hz eg (hg.mono ?_)
  rintro e' w' ⟨rfl, v, hr, h⟩
  refine ⟨rfl, ?_⟩
  simp only [Leaves, settle]
  exact ⟨v, hr, h⟩

end Go.Proofs.YtmopgcbhmkemjaaGreatDoor

namespace Go.Proofs.YtmopgcbhmkemjaaGreatDoor
open Go Go.RowKit
set_option linter.unusedSimpArgs false
set_option linter.unusedVariables false
set_option maxRecDepth 100000

set_option maxHeartbeats 4000000 in
theorem made_no1 (s : Bool) (n d : Nat) (hn : n < B9) (hd0 : 0 < d) (hd : 2 * d ≤ B9) (h1 : ¬ n / Nat.gcd n d < B4) (w : World) (hT : Tab w) :
    Calls Tryz.prog 82 #[sgnV s n, wideV d] w fun e w' => e = givesUp 110 ∧ Ext w w' := by
  have cg := gcd_any n d hn (by omega)
  have g0 : 0 < Nat.gcd n d := Nat.gcd_pos_of_pos_right _ hd0
  have gd : Nat.gcd n d ≤ d := Nat.le_of_dvd hd0 (Nat.gcd_dvd_right _ _)
  have b1 := by_any n (Nat.gcd n d) hn g0 (by omega)
  have b2 := by_any d (Nat.gcd n d) (by omega) g0 (by omega)
  have n1 := narrow_no _ s h1 (Nat.lt_of_le_of_lt (Nat.div_le_self _ _) hn)
  clear hn hd0 hd h1 g0 gd
  generalize n / Nat.gcd n d = x at *
  generalize d / Nat.gcd n d = y at *
  generalize Nat.gcd n d = g at *
  go_enter Tryz.func82, Tryz.ntmps82
  go_wp2_with (go_at_call 110; refine (cg _ (((hT.alloc _).alloc _).alloc _)).mono ?_; rintro e w' ⟨rfl, d1, rfl⟩)
  (first | refine wp_region_ksl' [0, 1, 2, 3, 4, 5, 7, 8] 6 _ [{ v := .iface 33 (.int .i64 110), recovered := false }] [.p, .r, .r, .r, .p, .r, .p, .r, .r, .p, .p, .p, .p] (by kernel_rfl) (by kernel_rfl) rfl ?hQ ?hS | refine wp_region_ksl [0, 1, 2, 3, 4, 5, 7, 8] 6 _ [{ v := .iface 33 (.int .i64 110), recovered := false }] [.p, .r, .r, .r, .p, .r, .p, .r, .r, .p, .p, .p, .p] (by kernel_rfl) (by kernel_rfl) rfl ?hQ ?hS); (case hS => (simp only [List.map_cons, List.map_nil, List.getD_cons_succ, List.getD_cons_zero]; (repeat (first | (refine wpK_p rfl (fun K hK => ?_); go_simp; refine hK _ _ ?_; clear hK K) | (refine wpK_r rfl (fun K hK => ?_); go_simp; refine hK _ _ ?_; clear hK K) | (refine wpK_r rfl (fun K hK => ?_); go_simp; apply Exists.intro; refine ⟨fun d => ?_, hK _ _ ?_⟩; (first | (with_reducible exact Calls.calm (b1 _)) | (with_reducible exact Calls.calm (b2 _))); clear hK K))); refine wpK_nil ?_; refine ⟨rfl, fun d => ?_⟩; go_simp; refine ⟨_, _, ⟨rfl, rfl⟩, ?_⟩; (with_reducible exact Calls.calmP (n1 _)))); intro a d hd hkept
  exact ⟨hd, rfl, ext_auto⟩
set_option maxHeartbeats 4000000 in
theorem made_no2 (s : Bool) (n d : Nat) (hn : n < B9) (hd0 : 0 < d) (hd : 2 * d ≤ B9) (h1 : n / Nat.gcd n d < B4) (h2 : ¬ d / Nat.gcd n d < B4) (w : World) (hT : Tab w) :
    Calls Tryz.prog 82 #[sgnV s n, wideV d] w fun e w' => e = givesUp 110 ∧ Ext w w' := by
  have cg := gcd_any n d hn (by omega)
  have g0 : 0 < Nat.gcd n d := Nat.gcd_pos_of_pos_right _ hd0
  have gd : Nat.gcd n d ≤ d := Nat.le_of_dvd hd0 (Nat.gcd_dvd_right _ _)
  have b1 := by_any n (Nat.gcd n d) hn g0 (by omega)
  have b2 := by_any d (Nat.gcd n d) (by omega) g0 (by omega)
  have n1 := narrow_yes _ s h1
  have n2 := narrow_no _ false h2 (Nat.lt_of_le_of_lt (Nat.div_le_self _ _) (by omega))
  generalize (s && !decide (n / Nat.gcd n d = 0)) = z at *
  clear hn hd0 hd h1 h2 g0 gd
  generalize n / Nat.gcd n d = x at *
  generalize d / Nat.gcd n d = y at *
  generalize Nat.gcd n d = g at *
  go_enter Tryz.func82, Tryz.ntmps82
  go_wp2_with (go_at_call 110; refine (cg _ (((hT.alloc _).alloc _).alloc _)).mono ?_; rintro e w' ⟨rfl, d1, rfl⟩)
  (first | refine wp_region_ksl' [0, 1, 2, 3, 4, 5, 6, 7, 8, 9] 10 _ [{ v := .iface 33 (.int .i64 110), recovered := false }] [.p, .r, .r, .r, .p, .r, .r, .r, .r, .r, .p, .p, .p] (by kernel_rfl) (by kernel_rfl) rfl ?hQ ?hS | refine wp_region_ksl [0, 1, 2, 3, 4, 5, 6, 7, 8, 9] 10 _ [{ v := .iface 33 (.int .i64 110), recovered := false }] [.p, .r, .r, .r, .p, .r, .r, .r, .r, .r, .p, .p, .p] (by kernel_rfl) (by kernel_rfl) rfl ?hQ ?hS); (case hS => (simp only [List.map_cons, List.map_nil, List.getD_cons_succ, List.getD_cons_zero]; (repeat (first | (refine wpK_p rfl (fun K hK => ?_); go_simp; refine hK _ _ ?_; clear hK K) | (refine wpK_r rfl (fun K hK => ?_); go_simp; refine hK _ _ ?_; clear hK K) | (refine wpK_r rfl (fun K hK => ?_); go_simp; apply Exists.intro; refine ⟨fun d => ?_, hK _ _ ?_⟩; (first | (with_reducible exact Calls.calm (b1 _)) | (with_reducible exact Calls.calm (b2 _)) | (with_reducible exact Calls.calm (n1 _))); clear hK K))); refine wpK_nil ?_; refine ⟨rfl, fun d => ?_⟩; go_simp; refine ⟨_, _, ⟨rfl, rfl⟩, ?_⟩; (with_reducible exact Calls.calmP (n2 _)))); intro a d hd hkept
  exact ⟨hd, rfl, ext_auto⟩
theorem made_q (s : Bool) (n d : Nat) (hn : n < B9) (hd0 : 0 < d) (hd : 2 * d ≤ B9) (hf : Fits (mkRat (sv s n) d)) (w : World) (hT : Tab w) :
    Calls Tryz.prog 82 #[sgnV s n, wideV d] w fun e w' => e = .returned (qV (mkRat (sv s n) d)) ∧ Ext w w' := by
  have ha := mk_abs (sv s n) d (by omega)
  have hp := (mk_parts (sv s n) d (by omega)).2
  have hs := mk_sign (sv s n) d (by omega)
  unfold Fits at hf
  rw [ha, hp] at hf
  simp only [qV, hs, ha, hp]
  rw [sv_natAbs] at *
  have := made_yes s n d hn hd0 hd hf.1 hf.2 w hT
  rw [sv_neg]
  have hz : (s && !decide (n / Nat.gcd n d = 0)) = ((s && !decide (n = 0)) && !decide (n / Nat.gcd n d = 0)) := by
    by_cases h : n = 0
    · simp [h]
    · cases s <;> simp [h]
  rw [hz] at this
  exact this
theorem made_qno (s : Bool) (n d : Nat) (hn : n < B9) (hd0 : 0 < d) (hd : 2 * d ≤ B9) (hf : ¬ Fits (mkRat (sv s n) d)) (w : World) (hT : Tab w) :
    Calls Tryz.prog 82 #[sgnV s n, wideV d] w fun e w' => e = givesUp 110 ∧ Ext w w' := by
  have ha := mk_abs (sv s n) d (by omega)
  have hp := (mk_parts (sv s n) d (by omega)).2
  unfold Fits at hf
  rw [ha, hp, sv_natAbs] at hf
  by_cases h1 : n / Nat.gcd n d < B4
  · exact made_no2 s n d hn hd0 hd h1 (fun h2 => hf ⟨h1, h2⟩) w hT
  · exact made_no1 s n d hn hd0 hd h1 w hT
end Go.Proofs.YtmopgcbhmkemjaaGreatDoor
