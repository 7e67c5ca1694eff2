/- Lemmas for the statement: Shelf, Split, Types, PathA, Good, Path, PathB, PathC. -/
import Derived.Shelf.Small.Strs
import Derived.Shelf.Small.Wraps
import Derived.Shelf.Strings.Search1
import Derived.Shelf.Strings.Search2
import Derived.Shelf.Strings.Search3
import Derived.Shelf.LaysM
import Derived.Shelf.Strings.Shaped
import Derived.Shelf.Strings.LastIndex
import Derived.Shelf.Strings.Prefix
import Derived.Shelf.Unicode.DecodeSlow
import Derived.Shelf.Slices.Turned
import Derived.Shelf.Slices.Reverse
import Derived.Ground.Names2Prog
import Derived.Shelf.Slices.Clone
import Derived.Shelf.Slices.SearchI
import Derived.Shelf.Slices.Delete
import Derived.Shelf.Slices.Cells
import Derived.Shelf.Slices.Empties
import Derived.Test.YteolglmifimnaaaDoorProg
import Derived.Shelf.Abstract
import Derived.Shelf.RegionOpen
import Derived.OwnWalkIn
import Derived.TacticsInMore
import Derived.LoopNIn
import Derived.LoopIn
import Derived.Lib.IndexLaws
import Derived.Lib.ConvBytes
import Derived.Laws.IdiomStrings
import Derived.Lib.LastIndexByte
import Derived.Test.YteolglmifimnaaaDoorPt1
/-
  DERIVED: THE SHELF's CONTRACTS AT THIS DUMP, IN PLAIN WORDS (tools/lay-plain.mjs out of 'TrydShelf.lean', which tools/lay-shelf.mjs wrote): THE SAME DECLARATIONS UNDER THE SAME NAMES: 'import', 'namespace', 'open', 'def', 'theorem' AND NOTHING ELSE: no command of the shelf's: FOR A HAND-IN. Each laying: the table of numbers ('.._ren') and one theorem, a field a fact of the dump's own or the kernel's comparison; each contract: ONE APPLICATION.
-/
namespace Go.Proofs
open Go.Shelf
def Tryd.lays213_ren : Go.Shelf.Ren := ⟨fun | 213 => 77 | 265 => 86 | n => n, fun | 9 => 9 | 3 => 3 | n => n, fun | n => n⟩
theorem Tryd.lays213 : Go.Proofs.Lays.n213 Tryd.prog Tryd.lays213_ren := {
  mixed := by kernel_rfl
  f213 := Tryd.func77.trans (congrArg some (by kernel_rfl))
  f265 := Tryd.func86.trans (congrArg some (by kernel_rfl))
  t3 := Tryd.underlying3
  a3 := Tryd.isAgg3
  z3 := Tryd.sizeOf3
  v3 := Tryd.zeroValue3
  t9 := Tryd.underlying9
  a9 := Tryd.isAgg9
  z9 := Tryd.sizeOf9
  v9 := Tryd.zeroValue9 }
open Go.RowKit in
/-- internal/bytealg.CompareString (what strings.Compare calls): IT RETURNS 'Lib.compareBytes a b'; the world is as it was. (LAID: no walk: one application.) -/
theorem Tryd.bytealg_CompareString (a b : ByteArray) (w : World) :
    Calls Tryd.prog 77 #[.string a, .string b] w fun e w' => e = .returned (.int .i64 (Lib.compareBytes a.data.toList b.data.toList)) ∧ w' = w := Any.bytealg_CompareString Tryd.lays213 a b w
def Tryd.lays106_ren : Go.Shelf.Ren := ⟨fun | 106 => 60 | 213 => 77 | 265 => 86 | n => n, fun | 9 => 9 | 3 => 3 | n => n, fun | n => n⟩
theorem Tryd.lays106 : Go.Proofs.Lays.n106 Tryd.prog Tryd.lays106_ren := {
  mixed := by kernel_rfl
  f106 := Tryd.func60.trans (congrArg some (by kernel_rfl))
  f213 := Tryd.func77.trans (congrArg some (by kernel_rfl))
  f265 := Tryd.func86.trans (congrArg some (by kernel_rfl))
  t3 := Tryd.underlying3
  a3 := Tryd.isAgg3
  z3 := Tryd.sizeOf3
  v3 := Tryd.zeroValue3
  t9 := Tryd.underlying9
  a9 := Tryd.isAgg9
  z9 := Tryd.sizeOf9
  v9 := Tryd.zeroValue9 }
open Go.RowKit in
/-- strings.Compare: "Compare returns an integer comparing two strings lexicographically. The result will be 0 if a == b, -1 if a < b, and +1 if a > b.": IT RETURNS 'Lib.compareBytes a b'; the world is as it was. (LAID: no walk: one application.) -/
theorem Tryd.strings_Compare (a b : ByteArray) (w : World) :
    Calls Tryd.prog 60 #[.string a, .string b] w fun e w' => e = .returned (.int .i64 (Lib.compareBytes a.data.toList b.data.toList)) ∧ w' = w := Any.strings_Compare Tryd.lays106 a b w
def Tryd.lays210_ren : Go.Shelf.Ren := ⟨fun | 210 => 78 | 206 => 75 | n => n, fun | 9 => 9 | 4 => 4 | 3 => 3 | n => n, fun | n => n⟩
theorem Tryd.lays210 : Go.Proofs.Lays.n210 Tryd.prog Tryd.lays210_ren := {
  mixed := by kernel_rfl
  f206 := Tryd.func75.trans (congrArg some (by kernel_rfl))
  f210 := Tryd.func78.trans (congrArg some (by kernel_rfl))
  t3 := Tryd.underlying3
  a3 := Tryd.isAgg3
  z3 := Tryd.sizeOf3
  v3 := Tryd.zeroValue3
  t4 := Tryd.underlying4
  a4 := Tryd.isAgg4
  z4 := Tryd.sizeOf4
  v4 := Tryd.zeroValue4
  t9 := Tryd.underlying9
  a9 := Tryd.isAgg9
  z9 := Tryd.sizeOf9
  v9 := Tryd.zeroValue9 }
open Go.RowKit in
/-- internal/stringslite.CutPrefix (what strings.CutPrefix calls). (LAID: no walk: one application.) -/
theorem Tryd.stringslite_CutPrefix (s p : ByteArray) (w : World) :
    Calls Tryd.prog 78 #[.string s, .string p] w fun e w' => e = .returned (.tuple #[.string ⟨(Lib.trimPrefix s.data.toList p.data.toList).toArray⟩, .bool (Lib.hasPrefix s.data.toList p.data.toList)]) ∧ w' = w := Any.stringslite_CutPrefix Tryd.lays210 s p w
def Tryd.lays103_ren : Go.Shelf.Ren := ⟨fun | 103 => 61 | 210 => 78 | 206 => 75 | n => n, fun | 9 => 9 | 4 => 4 | 24 => 43 | 3 => 3 | n => n, fun | n => n⟩
theorem Tryd.lays103 : Go.Proofs.Lays.n103 Tryd.prog Tryd.lays103_ren := {
  mixed := by kernel_rfl
  f103 := Tryd.func61.trans (congrArg some (by kernel_rfl))
  f206 := Tryd.func75.trans (congrArg some (by kernel_rfl))
  f210 := Tryd.func78.trans (congrArg some (by kernel_rfl))
  t3 := Tryd.underlying3
  a3 := Tryd.isAgg3
  z3 := Tryd.sizeOf3
  v3 := Tryd.zeroValue3
  t4 := Tryd.underlying4
  a4 := Tryd.isAgg4
  z4 := Tryd.sizeOf4
  v4 := Tryd.zeroValue4
  t9 := Tryd.underlying9
  a9 := Tryd.isAgg9
  z9 := Tryd.sizeOf9
  v9 := Tryd.zeroValue9
  t24 := Tryd.underlying43
  a24 := Tryd.isAgg43
  z24 := Tryd.sizeOf43
  v24 := Tryd.zeroValue43 }
open Go.RowKit in
/-- strings.CutPrefix: "CutPrefix returns s without the provided leading prefix string and reports whether it found the prefix. If s doesn't start with prefix, CutPrefix returns s, false. If prefix is the empty string, CutPrefix returns s, true.": IT RETURNS '(Lib.trimPrefix s p, Lib.hasPrefix s p)'; the world is as it was. (LAID: no walk: one application.) -/
theorem Tryd.strings_CutPrefix (s p : ByteArray) (w : World) :
    Calls Tryd.prog 61 #[.string s, .string p] w fun e w' => e = .returned (.tuple #[.string ⟨(Lib.trimPrefix s.data.toList p.data.toList).toArray⟩, .bool (Lib.hasPrefix s.data.toList p.data.toList)]) ∧ w' = w := Any.strings_CutPrefix Tryd.lays103 s p w
def Tryd.lays215_ren : Go.Shelf.Ren := ⟨fun | 215 => 79 | n => n, fun | 3 => 3 | 4 => 4 | n => n, fun | n => n⟩
theorem Tryd.lays215 : Go.Proofs.Lays.n215 Tryd.prog Tryd.lays215_ren := {
  mixed := by kernel_rfl
  f215 := Tryd.func79.trans (congrArg some (by kernel_rfl))
  t3 := Tryd.underlying3
  a3 := Tryd.isAgg3
  z3 := Tryd.sizeOf3
  v3 := Tryd.zeroValue3
  t4 := Tryd.underlying4
  a4 := Tryd.isAgg4
  z4 := Tryd.sizeOf4
  v4 := Tryd.zeroValue4 }
open Go.RowKit in
/-- cmp.isNaN at int: 'x != x': false. (LAID: no walk: one application.) -/
theorem Tryd.cmp_isNaN_int (x : Int) (w : World) :
    Calls Tryd.prog 79 #[.int .i64 x] w fun e w' => e = .returned (.bool false) ∧ w' = w := Any.cmp_isNaN_int Tryd.lays215 x w
def Tryd.lays217_ren : Go.Shelf.Ren := ⟨fun | 217 => 92 | 266 => 96 | n => n, fun | 9 => 9 | 5 => 5 | 3 => 3 | n => n, fun | n => n⟩
theorem Tryd.lays217 : Go.Proofs.Lays.n217 Tryd.prog Tryd.lays217_ren := {
  mixed := by kernel_rfl
  f217 := Tryd.func92.trans (congrArg some (by kernel_rfl))
  f266 := Tryd.func96.trans (congrArg some (by kernel_rfl))
  t3 := Tryd.underlying3
  a3 := Tryd.isAgg3
  z3 := Tryd.sizeOf3
  v3 := Tryd.zeroValue3
  t5 := Tryd.underlying5
  a5 := Tryd.isAgg5
  z5 := Tryd.sizeOf5
  v5 := Tryd.zeroValue5
  t9 := Tryd.underlying9
  a9 := Tryd.isAgg9
  z9 := Tryd.sizeOf9
  v9 := Tryd.zeroValue9 }
open Go.RowKit Go.Lib in
/-- internal/stringslite.IndexByte (what strings.IndexByte calls): IT RETURNS 'Lib.indexByte s c'; the world is as it was. (LAID: no walk: one application.) -/
theorem Tryd.stringslite_IndexByte (s : ByteArray) (c : Int) (w : World) :
    Calls Tryd.prog 92 #[.string s, .int .u8 c] w fun e w' => e = .returned (.int .i64 (Lib.indexByte s.data.toList c.toNat.toUInt8)) ∧ w' = w := Any.stringslite_IndexByte Tryd.lays217 s c w
def Tryd.lays224_ren : Go.Shelf.Ren := ⟨fun | 224 => 94 | n => n, fun | 3 => 3 | n => n, fun | n => n⟩
theorem Tryd.lays224 : Go.Proofs.Lays.n224 Tryd.prog Tryd.lays224_ren := {
  mixed := by kernel_rfl
  f224 := Tryd.func94.trans (congrArg some (by kernel_rfl))
  t3 := Tryd.underlying3
  a3 := Tryd.isAgg3
  z3 := Tryd.sizeOf3
  v3 := Tryd.zeroValue3 }
open Go.RowKit Go.Lib in
/-- internal/bytealg.Cutover: "Cutover reports the number of failures of IndexByte we should tolerate before switching over to Index. n is the number of bytes processed so far.": on amd64: (n + 16) / 8. (LAID: no walk: one application.) -/
theorem Tryd.bytealg_Cutover (n : Int) (h0 : 0 ≤ n) (h1 : n < 4611686018427387904) (w : World) :
    Calls Tryd.prog 94 #[.int .i64 n] w fun e w' => e = .returned (.int .i64 ((n + 16) / 8)) ∧ w' = w := Any.bytealg_Cutover Tryd.lays224 n h0 h1 w
def Tryd.lays314_ren : Go.Shelf.Ren := ⟨fun | 314 => 97 | n => n, fun | 9 => 9 | 51 => 136 | 3 => 3 | 4 => 4 | 5 => 5 | 46 => 115 | n => n, fun | n => n⟩
theorem Tryd.lays314 : Go.Proofs.Lays.n314 Tryd.prog Tryd.lays314_ren := {
  mixed := by kernel_rfl
  f314 := Tryd.func97.trans (congrArg some (by kernel_rfl))
  t3 := Tryd.underlying3
  a3 := Tryd.isAgg3
  z3 := Tryd.sizeOf3
  v3 := Tryd.zeroValue3
  t4 := Tryd.underlying4
  a4 := Tryd.isAgg4
  z4 := Tryd.sizeOf4
  v4 := Tryd.zeroValue4
  t5 := Tryd.underlying5
  a5 := Tryd.isAgg5
  z5 := Tryd.sizeOf5
  v5 := Tryd.zeroValue5
  t9 := Tryd.underlying9
  a9 := Tryd.isAgg9
  z9 := Tryd.sizeOf9
  v9 := Tryd.zeroValue9
  t46 := Tryd.underlying115
  a46 := Tryd.isAgg115
  z46 := Tryd.sizeOf115
  v46 := Tryd.zeroValue115
  t51 := Tryd.underlying136
  a51 := Tryd.isAgg136
  z51 := Tryd.sizeOf136
  v51 := Tryd.zeroValue136 }
open Go.RowKit Go.Lib in
/-- hashStr: "returns the hash and the appropriate multiplicative factor for use in Rabin-Karp algorithm": THE HASH OF ALL OF sep, AND 16777619 ^ len(sep), both in uint32. (LAID: no walk: one application.) -/
theorem Tryd.bytealg_hashStr (sep : ByteArray) (hs : sep.size < 4294967281) (w : World) :
    Calls Tryd.prog 97 #[.string sep] w fun e w' => e = .returned (.tuple #[.int .u32 (RK.H sep.data.toList % 4294967296), .int .u32 (16777619 ^ sep.size % 4294967296)]) ∧ w' = w := Any.bytealg_hashStr Tryd.lays314 sep hs w
def Tryd.lays267_ren : Go.Shelf.Ren := ⟨fun | 267 => 95 | 314 => 97 | n => n, fun | 9 => 9 | 3 => 3 | 146 => 137 | 51 => 136 | 4 => 4 | 5 => 5 | 46 => 115 | n => n, fun | n => n⟩
theorem Tryd.lays267 : Go.Proofs.Lays.n267 Tryd.prog Tryd.lays267_ren := {
  mixed := by kernel_rfl
  f267 := Tryd.func95.trans (congrArg some (by kernel_rfl))
  f314 := Tryd.func97.trans (congrArg some (by kernel_rfl))
  t3 := Tryd.underlying3
  a3 := Tryd.isAgg3
  z3 := Tryd.sizeOf3
  v3 := Tryd.zeroValue3
  t4 := Tryd.underlying4
  a4 := Tryd.isAgg4
  z4 := Tryd.sizeOf4
  v4 := Tryd.zeroValue4
  t5 := Tryd.underlying5
  a5 := Tryd.isAgg5
  z5 := Tryd.sizeOf5
  v5 := Tryd.zeroValue5
  t9 := Tryd.underlying9
  a9 := Tryd.isAgg9
  z9 := Tryd.sizeOf9
  v9 := Tryd.zeroValue9
  t46 := Tryd.underlying115
  a46 := Tryd.isAgg115
  z46 := Tryd.sizeOf115
  v46 := Tryd.zeroValue115
  t51 := Tryd.underlying136
  a51 := Tryd.isAgg136
  z51 := Tryd.sizeOf136
  v51 := Tryd.zeroValue136
  t146 := Tryd.underlying137
  a146 := Tryd.isAgg137
  z146 := Tryd.sizeOf137
  v146 := Tryd.zeroValue137 }
open Go.RowKit Go.Lib in
theorem Tryd.bytealg_IndexRabinKarp (s sep : ByteArray) (h1 : 1 ≤ sep.size) (h2 : sep.size ≤ s.size) (hs : s.size < 4294967281) (w : World) :
    Calls Tryd.prog 95 #[.string s, .string sep] w fun e w' => e = .returned (.int .i64 (Lib.index s.data.toList sep.data.toList)) ∧ w' = w := Any.bytealg_IndexRabinKarp Tryd.lays267 s sep h1 h2 hs w
def Tryd.lays219_ren : Go.Shelf.Ren := ⟨fun | 219 => 90 | 217 => 92 | 225 => 93 | 224 => 94 | 267 => 95 | 266 => 96 | 314 => 97 | n => n, fun | 9 => 9 | 3 => 3 | 4 => 4 | 5 => 5 | 46 => 115 | 146 => 137 | 51 => 136 | n => n, fun | 1 => 0 | n => n⟩
theorem Tryd.lays219 : Go.Proofs.Lays.n219 Tryd.prog Tryd.lays219_ren := {
  mixed := by kernel_rfl
  f217 := Tryd.func92.trans (congrArg some (by kernel_rfl))
  f219 := Tryd.func90.trans (congrArg some (by kernel_rfl))
  f224 := Tryd.func94.trans (congrArg some (by kernel_rfl))
  f225 := Tryd.func93.trans (congrArg some (by kernel_rfl))
  f266 := Tryd.func96.trans (congrArg some (by kernel_rfl))
  f267 := Tryd.func95.trans (congrArg some (by kernel_rfl))
  f314 := Tryd.func97.trans (congrArg some (by kernel_rfl))
  t3 := Tryd.underlying3
  a3 := Tryd.isAgg3
  z3 := Tryd.sizeOf3
  v3 := Tryd.zeroValue3
  t4 := Tryd.underlying4
  a4 := Tryd.isAgg4
  z4 := Tryd.sizeOf4
  v4 := Tryd.zeroValue4
  t5 := Tryd.underlying5
  a5 := Tryd.isAgg5
  z5 := Tryd.sizeOf5
  v5 := Tryd.zeroValue5
  t9 := Tryd.underlying9
  a9 := Tryd.isAgg9
  z9 := Tryd.sizeOf9
  v9 := Tryd.zeroValue9
  t46 := Tryd.underlying115
  a46 := Tryd.isAgg115
  z46 := Tryd.sizeOf115
  v46 := Tryd.zeroValue115
  t51 := Tryd.underlying136
  a51 := Tryd.isAgg136
  z51 := Tryd.sizeOf136
  v51 := Tryd.zeroValue136
  t146 := Tryd.underlying137
  a146 := Tryd.isAgg137
  z146 := Tryd.sizeOf137
  v146 := Tryd.zeroValue137
  g1 := by kernel_rfl }
open Go.RowKit Go.Lib in
/-- internal/stringslite.Index (what strings.Index calls) AT A substr OF ONE BYTE c: IT RETURNS 'Lib.indexByte s c'; the world is as it was. (LAID: no walk: one application.) -/
theorem Tryd.stringslite_Index_one (s : ByteArray) (c : UInt8) (w : World) :
    Calls Tryd.prog 90 #[.string s, .string ⟨#[c]⟩] w fun e w' => e = .returned (.int .i64 (Lib.indexByte s.data.toList c)) ∧ w' = w := Any.stringslite_Index_one Tryd.lays219 s c w
open Go.RowKit Go.Lib in
/-- internal/stringslite.Index (what strings.Index calls) AT A substr OF WHATEVER LENGTH: IT RETURNS 'Lib.index s substr'; the world is as it was. 'm': what internal/bytealg.MaxLen holds: whatever. (LAID: no walk: one application.) -/
theorem Tryd.stringslite_Index (s sub : ByteArray) (m : Int) (w : World) (hs : s.size < 4294967281) (hm : w.cell? ⟨0, 0, none⟩ = some (.int .i64 m)) :
    Calls Tryd.prog 90 #[.string s, .string sub] w fun e w' => e = .returned (.int .i64 (Lib.index s.data.toList sub.data.toList)) ∧ w' = w := Any.stringslite_Index Tryd.lays219 s sub m w hs hm
def Tryd.lays143_ren : Go.Shelf.Ren := ⟨fun | 143 => 85 | 219 => 90 | 217 => 92 | 225 => 93 | 224 => 94 | 267 => 95 | 266 => 96 | 314 => 97 | n => n, fun | 9 => 9 | 3 => 3 | 4 => 4 | 5 => 5 | 46 => 115 | 146 => 137 | 51 => 136 | n => n, fun | 1 => 0 | n => n⟩
theorem Tryd.lays143 : Go.Proofs.Lays.n143 Tryd.prog Tryd.lays143_ren := {
  mixed := by kernel_rfl
  f143 := Tryd.func85.trans (congrArg some (by kernel_rfl))
  f217 := Tryd.func92.trans (congrArg some (by kernel_rfl))
  f219 := Tryd.func90.trans (congrArg some (by kernel_rfl))
  f224 := Tryd.func94.trans (congrArg some (by kernel_rfl))
  f225 := Tryd.func93.trans (congrArg some (by kernel_rfl))
  f266 := Tryd.func96.trans (congrArg some (by kernel_rfl))
  f267 := Tryd.func95.trans (congrArg some (by kernel_rfl))
  f314 := Tryd.func97.trans (congrArg some (by kernel_rfl))
  t3 := Tryd.underlying3
  a3 := Tryd.isAgg3
  z3 := Tryd.sizeOf3
  v3 := Tryd.zeroValue3
  t4 := Tryd.underlying4
  a4 := Tryd.isAgg4
  z4 := Tryd.sizeOf4
  v4 := Tryd.zeroValue4
  t5 := Tryd.underlying5
  a5 := Tryd.isAgg5
  z5 := Tryd.sizeOf5
  v5 := Tryd.zeroValue5
  t9 := Tryd.underlying9
  a9 := Tryd.isAgg9
  z9 := Tryd.sizeOf9
  v9 := Tryd.zeroValue9
  t46 := Tryd.underlying115
  a46 := Tryd.isAgg115
  z46 := Tryd.sizeOf115
  v46 := Tryd.zeroValue115
  t51 := Tryd.underlying136
  a51 := Tryd.isAgg136
  z51 := Tryd.sizeOf136
  v51 := Tryd.zeroValue136
  t146 := Tryd.underlying137
  a146 := Tryd.isAgg137
  z146 := Tryd.sizeOf137
  v146 := Tryd.zeroValue137
  g1 := by kernel_rfl }
open Go.RowKit Go.Lib in
/-- strings.Index: "Index returns the index of the first instance of substr in s, or -1 if substr is not present in s.": AT A substr OF ONE BYTE c: IT RETURNS 'Lib.indexByte s c'; the world is as it was. (LAID: no walk: one application.) -/
theorem Tryd.strings_Index_one (s : ByteArray) (c : UInt8) (w : World) :
    Calls Tryd.prog 85 #[.string s, .string ⟨#[c]⟩] w fun e w' => e = .returned (.int .i64 (Lib.indexByte s.data.toList c)) ∧ w' = w := Any.strings_Index_one Tryd.lays143 s c w
open Go.RowKit Go.Lib in
/-- strings.Index: "Index returns the index of the first instance of substr in s, or -1 if substr is not present in s.": IT RETURNS 'Lib.index s substr'; the world is as it was. (LAID: no walk: one application.) -/
theorem Tryd.strings_Index (s sub : ByteArray) (m : Int) (w : World) (hs : s.size < 4294967281) (hm : w.cell? ⟨0, 0, none⟩ = some (.int .i64 m)) :
    Calls Tryd.prog 85 #[.string s, .string sub] w fun e w' => e = .returned (.int .i64 (Lib.index s.data.toList sub.data.toList)) ∧ w' = w := Any.strings_Index Tryd.lays143 s sub m w hs hm
def Tryd.laysM219_ren : Go.Shelf.Ren := ⟨fun | 219 => 90 | 217 => 92 | 225 => 93 | 224 => 94 | 267 => 95 | 266 => 96 | 314 => 97 | n => n, fun | 9 => 9 | 3 => 3 | 4 => 4 | 5 => 5 | 46 => 115 | 146 => 137 | 51 => 136 | n => n, fun | 1 => 0 | n => n⟩
theorem Tryd.laysM219 : Go.Proofs.LaysM.n219 Tryd.prog Tryd.laysM219_ren := {
  mixed := by kernel_rfl
  f217 := Tryd.func92.trans (congrArg some (by kernel_rfl))
  f219 := Tryd.func90.trans (congrArg some (by kernel_rfl))
  f224 := Tryd.func94.trans (congrArg some (by kernel_rfl))
  f225 := Tryd.func93.trans (congrArg some (by kernel_rfl))
  f266 := Tryd.func96.trans (congrArg some (by kernel_rfl))
  f267 := Tryd.func95.trans (congrArg some (by kernel_rfl))
  f314 := Tryd.func97.trans (congrArg some (by kernel_rfl))
  t3 := Tryd.underlying3
  a3 := Tryd.isAgg3
  z3 := Tryd.sizeOf3
  v3 := Tryd.zeroValue3
  t4 := Tryd.underlying4
  a4 := Tryd.isAgg4
  z4 := Tryd.sizeOf4
  v4 := Tryd.zeroValue4
  t5 := Tryd.underlying5
  a5 := Tryd.isAgg5
  z5 := Tryd.sizeOf5
  v5 := Tryd.zeroValue5
  t9 := Tryd.underlying9
  a9 := Tryd.isAgg9
  z9 := Tryd.sizeOf9
  v9 := Tryd.zeroValue9
  t46 := Tryd.underlying115
  a46 := Tryd.isAgg115
  z46 := Tryd.sizeOf115
  v46 := Tryd.zeroValue115
  t51 := Tryd.underlying136
  a51 := Tryd.isAgg136
  z51 := Tryd.sizeOf136
  v51 := Tryd.zeroValue136
  t146 := Tryd.underlying137
  a146 := Tryd.isAgg137
  z146 := Tryd.sizeOf137
  v146 := Tryd.zeroValue137
  g1 := by kernel_rfl
  i3 := by kernel_rfl
  i4 := by kernel_rfl
  i5 := by kernel_rfl
  i9 := by kernel_rfl
  i46 := by kernel_rfl
  i51 := by kernel_rfl
  i146 := by kernel_rfl
  m1 := by kernel_rfl
  s1_3 := fun w h => Go.Proofs.cell_of_shapedOpen_int (zero := #[.int .i64 0]) (t := 3) h (of_decide_eq_true (by kernel_rfl)) (by kernel_rfl) rfl (by kernel_rfl) (by kernel_rfl) Tryd.underlying3 }
open Go.RowKit Go.Lib in
theorem Tryd.stringslite_Index_shaped (s sub : ByteArray) (w : World) (h : w.ShapedOpen Tryd.prog) (hs : s.size < 4294967281) :
    Calls Tryd.prog 90 #[.string s, .string sub] w fun e w' => e = .returned (.int .i64 (Lib.index s.data.toList sub.data.toList)) ∧ w' = w := Any.stringslite_Index_shaped Tryd.laysM219 s sub w h hs
def Tryd.laysM143_ren : Go.Shelf.Ren := ⟨fun | 143 => 85 | 219 => 90 | 217 => 92 | 225 => 93 | 224 => 94 | 267 => 95 | 266 => 96 | 314 => 97 | n => n, fun | 9 => 9 | 3 => 3 | 4 => 4 | 5 => 5 | 46 => 115 | 146 => 137 | 51 => 136 | n => n, fun | 1 => 0 | n => n⟩
theorem Tryd.laysM143 : Go.Proofs.LaysM.n143 Tryd.prog Tryd.laysM143_ren := {
  mixed := by kernel_rfl
  f143 := Tryd.func85.trans (congrArg some (by kernel_rfl))
  f217 := Tryd.func92.trans (congrArg some (by kernel_rfl))
  f219 := Tryd.func90.trans (congrArg some (by kernel_rfl))
  f224 := Tryd.func94.trans (congrArg some (by kernel_rfl))
  f225 := Tryd.func93.trans (congrArg some (by kernel_rfl))
  f266 := Tryd.func96.trans (congrArg some (by kernel_rfl))
  f267 := Tryd.func95.trans (congrArg some (by kernel_rfl))
  f314 := Tryd.func97.trans (congrArg some (by kernel_rfl))
  t3 := Tryd.underlying3
  a3 := Tryd.isAgg3
  z3 := Tryd.sizeOf3
  v3 := Tryd.zeroValue3
  t4 := Tryd.underlying4
  a4 := Tryd.isAgg4
  z4 := Tryd.sizeOf4
  v4 := Tryd.zeroValue4
  t5 := Tryd.underlying5
  a5 := Tryd.isAgg5
  z5 := Tryd.sizeOf5
  v5 := Tryd.zeroValue5
  t9 := Tryd.underlying9
  a9 := Tryd.isAgg9
  z9 := Tryd.sizeOf9
  v9 := Tryd.zeroValue9
  t46 := Tryd.underlying115
  a46 := Tryd.isAgg115
  z46 := Tryd.sizeOf115
  v46 := Tryd.zeroValue115
  t51 := Tryd.underlying136
  a51 := Tryd.isAgg136
  z51 := Tryd.sizeOf136
  v51 := Tryd.zeroValue136
  t146 := Tryd.underlying137
  a146 := Tryd.isAgg137
  z146 := Tryd.sizeOf137
  v146 := Tryd.zeroValue137
  g1 := by kernel_rfl
  i3 := by kernel_rfl
  i4 := by kernel_rfl
  i5 := by kernel_rfl
  i9 := by kernel_rfl
  i46 := by kernel_rfl
  i51 := by kernel_rfl
  i146 := by kernel_rfl
  m1 := by kernel_rfl
  s1_3 := fun w h => Go.Proofs.cell_of_shapedOpen_int (zero := #[.int .i64 0]) (t := 3) h (of_decide_eq_true (by kernel_rfl)) (by kernel_rfl) rfl (by kernel_rfl) (by kernel_rfl) Tryd.underlying3 }
open Go.RowKit Go.Lib in
theorem Tryd.strings_Index_shaped (s sub : ByteArray) (w : World) (h : w.ShapedOpen Tryd.prog) (hs : s.size < 4294967281) :
    Calls Tryd.prog 85 #[.string s, .string sub] w fun e w' => e = .returned (.int .i64 (Lib.index s.data.toList sub.data.toList)) ∧ w' = w := Any.strings_Index_shaped Tryd.laysM143 s sub w h hs
def Tryd.lays222_ren : Go.Shelf.Ren := ⟨fun | 222 => 73 | n => n, fun | 9 => 9 | 5 => 5 | 3 => 3 | 4 => 4 | n => n, fun | n => n⟩
theorem Tryd.lays222 : Go.Proofs.Lays.n222 Tryd.prog Tryd.lays222_ren := {
  mixed := by kernel_rfl
  f222 := Tryd.func73.trans (congrArg some (by kernel_rfl))
  t3 := Tryd.underlying3
  a3 := Tryd.isAgg3
  z3 := Tryd.sizeOf3
  v3 := Tryd.zeroValue3
  t4 := Tryd.underlying4
  a4 := Tryd.isAgg4
  z4 := Tryd.sizeOf4
  v4 := Tryd.zeroValue4
  t5 := Tryd.underlying5
  a5 := Tryd.isAgg5
  z5 := Tryd.sizeOf5
  v5 := Tryd.zeroValue5
  t9 := Tryd.underlying9
  a9 := Tryd.isAgg9
  z9 := Tryd.sizeOf9
  v9 := Tryd.zeroValue9 }
open Go.RowKit Go.Lib in
/-- internal/bytealg.LastIndexByteString: 'for i := len(s) - 1; i >= 0; i-- { if s[i] == c { return i } }; return -1'. (LAID: no walk: one application.) -/
theorem Tryd.bytealg_LastIndexByteString_nm (s : ByteArray) (c : Int) (hs : s.size < 4611686018427387904) (w : World) :
    Calls Tryd.prog 73 #[.string s, .int .u8 c] w fun e w' => e = .returned (.int .i64 (Lib.lastIndexByte s c)) ∧ w' = w := Any.bytealg_LastIndexByteString_nm Tryd.lays222 s c hs w
def Tryd.lays149_ren : Go.Shelf.Ren := ⟨fun | 149 => 52 | 222 => 73 | n => n, fun | 9 => 9 | 5 => 5 | 3 => 3 | 4 => 4 | n => n, fun | n => n⟩
theorem Tryd.lays149 : Go.Proofs.Lays.n149 Tryd.prog Tryd.lays149_ren := {
  mixed := by kernel_rfl
  f149 := Tryd.func52.trans (congrArg some (by kernel_rfl))
  f222 := Tryd.func73.trans (congrArg some (by kernel_rfl))
  t3 := Tryd.underlying3
  a3 := Tryd.isAgg3
  z3 := Tryd.sizeOf3
  v3 := Tryd.zeroValue3
  t4 := Tryd.underlying4
  a4 := Tryd.isAgg4
  z4 := Tryd.sizeOf4
  v4 := Tryd.zeroValue4
  t5 := Tryd.underlying5
  a5 := Tryd.isAgg5
  z5 := Tryd.sizeOf5
  v5 := Tryd.zeroValue5
  t9 := Tryd.underlying9
  a9 := Tryd.isAgg9
  z9 := Tryd.sizeOf9
  v9 := Tryd.zeroValue9 }
open Go.RowKit Go.Lib in
/-- strings.LastIndexByte: "LastIndexByte returns the index of the last instance of c in s, or -1 if c is not present in s." (LAID: no walk: one application.) -/
theorem Tryd.strings_LastIndexByte (s : ByteArray) (c : Int) (hs : s.size < 4611686018427387904) (w : World) :
    Calls Tryd.prog 52 #[.string s, .int .u8 c] w fun e w' => e = .returned (.int .i64 (Lib.lastIndexByte s c)) ∧ w' = w := Any.strings_LastIndexByte Tryd.lays149 s c hs w
def Tryd.lays206_ren : Go.Shelf.Ren := ⟨fun | 206 => 75 | n => n, fun | 9 => 9 | 4 => 4 | 3 => 3 | n => n, fun | n => n⟩
theorem Tryd.lays206 : Go.Proofs.Lays.n206 Tryd.prog Tryd.lays206_ren := {
  mixed := by kernel_rfl
  f206 := Tryd.func75.trans (congrArg some (by kernel_rfl))
  t3 := Tryd.underlying3
  a3 := Tryd.isAgg3
  z3 := Tryd.sizeOf3
  v3 := Tryd.zeroValue3
  t4 := Tryd.underlying4
  a4 := Tryd.isAgg4
  z4 := Tryd.sizeOf4
  v4 := Tryd.zeroValue4
  t9 := Tryd.underlying9
  a9 := Tryd.isAgg9
  z9 := Tryd.sizeOf9
  v9 := Tryd.zeroValue9 }
open Go.RowKit Go.Lib in
/-- internal/stringslite.HasPrefix (what strings.HasPrefix calls). (LAID: no walk: one application.) -/
theorem Tryd.stringslite_HasPrefix (s p : ByteArray) (w : World) :
    Calls Tryd.prog 75 #[.string s, .string p] w fun e w' => e = .returned (.bool (Lib.hasPrefix s.data.toList p.data.toList)) ∧ w' = w := Any.stringslite_HasPrefix Tryd.lays206 s p w
def Tryd.lays99_ren : Go.Shelf.Ren := ⟨fun | 99 => 56 | 206 => 75 | n => n, fun | 9 => 9 | 4 => 4 | 3 => 3 | n => n, fun | n => n⟩
theorem Tryd.lays99 : Go.Proofs.Lays.n99 Tryd.prog Tryd.lays99_ren := {
  mixed := by kernel_rfl
  f99 := Tryd.func56.trans (congrArg some (by kernel_rfl))
  f206 := Tryd.func75.trans (congrArg some (by kernel_rfl))
  t3 := Tryd.underlying3
  a3 := Tryd.isAgg3
  z3 := Tryd.sizeOf3
  v3 := Tryd.zeroValue3
  t4 := Tryd.underlying4
  a4 := Tryd.isAgg4
  z4 := Tryd.sizeOf4
  v4 := Tryd.zeroValue4
  t9 := Tryd.underlying9
  a9 := Tryd.isAgg9
  z9 := Tryd.sizeOf9
  v9 := Tryd.zeroValue9 }
open Go.RowKit Go.Lib in
/-- strings.HasPrefix: "HasPrefix reports whether the string s begins with prefix.": IT RETURNS 'Lib.hasPrefix s prefix'; the world is as it was. (LAID: no walk: one application.) -/
theorem Tryd.strings_HasPrefix (s p : ByteArray) (w : World) :
    Calls Tryd.prog 56 #[.string s, .string p] w fun e w' => e = .returned (.bool (Lib.hasPrefix s.data.toList p.data.toList)) ∧ w' = w := Any.strings_HasPrefix Tryd.lays99 s p w
def Tryd.lays260_ren : Go.Shelf.Ren := ⟨fun | 260 => 89 | n => n, fun | 9 => 9 | 21 => 21 | 3 => 3 | 4 => 4 | 5 => 5 | 119 => 132 | 0 => 0 | 46 => 115 | 139 => 135 | 138 => 134 | n => n, fun | 3 => 1 | 4 => 2 | n => n⟩
theorem Tryd.lays260 : Go.Proofs.Lays.n260 Tryd.prog Tryd.lays260_ren := {
  mixed := by kernel_rfl
  f260 := Tryd.func89.trans (congrArg some (by kernel_rfl))
  t0 := Tryd.underlying0
  a0 := Tryd.isAgg0
  z0 := Tryd.sizeOf0
  v0 := Tryd.zeroValue0
  t3 := Tryd.underlying3
  a3 := Tryd.isAgg3
  z3 := Tryd.sizeOf3
  v3 := Tryd.zeroValue3
  t4 := Tryd.underlying4
  a4 := Tryd.isAgg4
  z4 := Tryd.sizeOf4
  v4 := Tryd.zeroValue4
  t5 := Tryd.underlying5
  a5 := Tryd.isAgg5
  z5 := Tryd.sizeOf5
  v5 := Tryd.zeroValue5
  t9 := Tryd.underlying9
  a9 := Tryd.isAgg9
  z9 := Tryd.sizeOf9
  v9 := Tryd.zeroValue9
  t21 := Tryd.underlying21
  a21 := Tryd.isAgg21
  z21 := Tryd.sizeOf21
  v21 := Tryd.zeroValue21
  t46 := Tryd.underlying115
  a46 := Tryd.isAgg115
  z46 := Tryd.sizeOf115
  v46 := Tryd.zeroValue115
  t119 := Tryd.underlying132
  a119 := Tryd.isAgg132
  z119 := Tryd.sizeOf132
  t138 := Tryd.underlying134
  a138 := Tryd.isAgg134
  z138 := Tryd.sizeOf134
  v138 := Tryd.zeroValue134
  t139 := Tryd.underlying135
  a139 := Tryd.isAgg135
  z139 := Tryd.sizeOf135
  v139 := Tryd.zeroValue135
  g3 := by kernel_rfl
  g4 := by kernel_rfl }
open Go.RowKit Go.Lib in
theorem Tryd.utf8_decodeRuneInStringSlow (s : ByteArray) (w : World) (hT : Lib.Utf8Tabs 1 2 w) :
    Calls Tryd.prog 89 #[.string s] w fun e w' => e = .returned (.tuple #[.int .i32 (Lib.decodeGo s).1, .int .i64 (Lib.decodeGo s).2]) ∧ Below w.heap.size w w' := Any.utf8_decodeRuneInStringSlow Tryd.lays260 s w hT
def Tryd.lays109_ren : Go.Shelf.Ren := ⟨fun | 109 => 41 | n => n, fun | 31 => 28 | 9 => 9 | 3 => 3 | 0 => 0 | 4 => 4 | n => n, fun | n => n⟩
theorem Tryd.lays109 : Go.Proofs.Lays.n109 Tryd.prog Tryd.lays109_ren := {
  mixed := by kernel_rfl
  f109 := Tryd.func41.trans (congrArg some (by kernel_rfl))
  t0 := Tryd.underlying0
  a0 := Tryd.isAgg0
  z0 := Tryd.sizeOf0
  v0 := Tryd.zeroValue0
  t3 := Tryd.underlying3
  a3 := Tryd.isAgg3
  z3 := Tryd.sizeOf3
  v3 := Tryd.zeroValue3
  t4 := Tryd.underlying4
  a4 := Tryd.isAgg4
  z4 := Tryd.sizeOf4
  v4 := Tryd.zeroValue4
  t9 := Tryd.underlying9
  a9 := Tryd.isAgg9
  z9 := Tryd.sizeOf9
  v9 := Tryd.zeroValue9
  t31 := Tryd.underlying28
  a31 := Tryd.isAgg28
  z31 := Tryd.sizeOf28
  v31 := Tryd.zeroValue28 }
open Go.Lib in
/-- slices.Index at []string: "Index returns the index of the first occurrence of v in s, or -1 if not present.": IT RETURNS 'Lib.idxOfS (the elements) v'; the world is as it was. 'zs': what the cells behind the slice's address hold (its spare capacity too, if you have it); 'zs.take n': its elements. (LAID: no walk: one application.) -/
theorem Tryd.slices_Index_string (b off n c : Nat) (zs : List ByteArray) (x : ByteArray) (w : World) (hz : n ≤ zs.length) (hbig : n ≤ 9223372036854775807) (hc : ∀ j, j < zs.length → w.cell? ⟨b, off + j, none⟩ = some (.string (zs.getD j ByteArray.empty))) :
    Calls Tryd.prog 41 #[.slice (some ⟨b, off, none⟩) n c, .string x] w fun e w' => e = .returned (.int .i64 (Lib.idxOfS (zs.take n) x)) ∧ w' = w := Any.slices_Index_string Tryd.lays109 b off n c zs x w hz hbig hc
open Go.Lib in
/-- The same at a slice of length 0, a nil one too: no cell is known, none is asked for. (LAID: no walk: one application.) -/
theorem Tryd.slices_Index_string_empty (a : Option Addr) (c : Nat) (x : ByteArray) (w : World) :
    Calls Tryd.prog 41 #[.slice a 0 c, .string x] w fun e w' => e = .returned (.int .i64 (Lib.idxOfS [] x)) ∧ w' = w := Any.slices_Index_string_empty Tryd.lays109 a c x w
def Tryd.lays112_ren : Go.Shelf.Ren := ⟨fun | 112 => 87 | n => n, fun | 28 => 23 | 3 => 3 | 4 => 4 | 0 => 0 | n => n, fun | n => n⟩
theorem Tryd.lays112 : Go.Proofs.Lays.n112 Tryd.prog Tryd.lays112_ren := {
  mixed := by kernel_rfl
  f112 := Tryd.func87.trans (congrArg some (by kernel_rfl))
  t0 := Tryd.underlying0
  a0 := Tryd.isAgg0
  z0 := Tryd.sizeOf0
  v0 := Tryd.zeroValue0
  t3 := Tryd.underlying3
  a3 := Tryd.isAgg3
  z3 := Tryd.sizeOf3
  v3 := Tryd.zeroValue3
  t4 := Tryd.underlying4
  a4 := Tryd.isAgg4
  z4 := Tryd.sizeOf4
  v4 := Tryd.zeroValue4
  t28 := Tryd.underlying23
  a28 := Tryd.isAgg23
  z28 := Tryd.sizeOf23
  v28 := Tryd.zeroValue23 }
open Go.RowKit Go.Lib Go.Sort in
/-- slices.Reverse at []int, over an array: Go's loop from the two ends inward is walked; it makes 'Sort.reverseLoop 0 (len - 1)', which is 'Array.reverse' (Derived/Lib/SlicesMore.lean). (LAID: no walk: one application.) -/
theorem Tryd.slices_Reverse_int_arr (blk off cap : Nat) (d : Array Int) (w : World) (hH : Holds encI w blk off d) (hsz : d.size ≤ 9223372036854775807) :
    Calls Tryd.prog 87 #[.slice (some ⟨blk, off, none⟩) d.size cap] w fun e w' => e = .returned (.tuple #[]) ∧ ∃ n, w' = putRow encI (Sort.ahead w n) blk off d.reverse := Any.slices_Reverse_int_arr Tryd.lays112 blk off cap d w hH hsz
open Go.RowKit Go.Lib Go.Sort in
/-- slices.Reverse at []int: "Reverse reverses the elements of the slice in place.": THE SLICE's CELLS HOLD 'zs.reverse' BEHIND THE CALL; all else is as it was, but for the count of draws (the exchange 's[i], s[j] = s[j], s[i]' draws its order, once a round). IN THE WORDS OF slices.Sort's CONTRACT: 'Holds': the cells hold zs and none is frozen; 'putRow': the world with those cells holding another array. A slice of length 0 that is not nil is among them ('zs = []'); nil: '.._nil'. (LAID: no walk: one application.) -/
theorem Tryd.slices_Reverse_int (blk off cap : Nat) (zs : List Int) (w : World) (hH : Holds (Value.int .i64) w blk off zs.toArray) (hsz : zs.length ≤ 9223372036854775807) :
    Calls Tryd.prog 87 #[.slice (some ⟨blk, off, none⟩) zs.length cap] w fun e w' => e = .returned (.tuple #[]) ∧ ∃ n, w' = putRow (Value.int .i64) (Sort.ahead w n) blk off zs.reverse.toArray := Any.slices_Reverse_int Tryd.lays112 blk off cap zs w hH hsz
open Go.RowKit Go.Lib Go.Sort in
/-- The same at a slice of length 0, a nil one too: nothing is read, nothing written, nothing drawn. (LAID: no walk: one application.) -/
theorem Tryd.slices_Reverse_int_empty (a : Option Addr) (cap : Nat) (w : World) :
    Calls Tryd.prog 87 #[.slice a 0 cap] w fun e w' => e = .returned (.tuple #[]) ∧ w' = w := Any.slices_Reverse_int_empty Tryd.lays112 a cap w
def Tryd.laysNm215_ren : Go.Shelf.Ren := ⟨fun | 15 => 64 | n => n, fun | 22 => 23 | 3 => 3 | 4 => 4 | n => n, fun | n => n⟩
theorem Tryd.laysNm215 : Go.Proofs.Lays2.n15 Tryd.prog Tryd.laysNm215_ren := {
  mixed := by kernel_rfl
  f15 := Tryd.func64.trans (congrArg some (by kernel_rfl))
  t3 := Tryd.underlying3
  a3 := Tryd.isAgg3
  z3 := Tryd.sizeOf3
  v3 := Tryd.zeroValue3
  t4 := Tryd.underlying4
  a4 := Tryd.isAgg4
  z4 := Tryd.sizeOf4
  v4 := Tryd.zeroValue4
  t22 := Tryd.underlying23
  a22 := Tryd.isAgg23
  z22 := Tryd.sizeOf23
  v22 := Tryd.zeroValue23
  i3 := by kernel_rfl }
open Go.RowKit Go.Lib in
/-- slices.Clone at []int: "Clone returns a copy of the slice. The elements are copied using assignment, so this is a shallow clone. The result may have additional unused capacity. The result preserves the nilness of s.": OF A SLICE THAT IS NOT nil IT RETURNS A SLICE THAT IS NOT nil, OF THE SAME ELEMENTS, IN MEMORY OF THE CALL's OWN: in the how-to's words (6f): 'w'.ownsRow B e 1 v' n cells': v' begins at the head of a row among the blocks from B on (B: the heap's size at the call), not frozen, whose first cells are the elements · 'Below B w w'': below B all is as it was. The capacity is whatever the run-time gives. 'zs': what the cells behind the slice's address hold; 'zs.take n': its elements. (LAID: no walk: one application.) -/
theorem Tryd.slices_Clone_int (b off n c : Nat) (zs : List Int) (w : World) (hz : n ≤ zs.length) (hbig : n * 8 ≤ 140737488355328) (hc : ∀ j, j < zs.length → w.cell? ⟨b, off + j, none⟩ = some (.int .i64 (zs.getD j 0))) :
    Calls Tryd.prog 64 #[.slice (some ⟨b, off, none⟩) n c] w fun e w' => ∃ v', e = .returned v' ∧ w'.ownsRow w.heap.size 3 1 v' n ((zs.take n).map (Value.int .i64)) ∧ v' ≠ .slice none 0 0 ∧ Below w.heap.size w w' := Any.slices_Clone_int Tryd.laysNm215 b off n c zs w hz hbig hc
open Go.RowKit Go.Lib in
/-- The same at nil: nil comes back; the world is as it was. (LAID: no walk: one application.) -/
theorem Tryd.slices_Clone_int_nil (n c : Nat) (w : World) :
    Calls Tryd.prog 64 #[.slice none n c] w fun e w' => e = .returned (.slice none 0 0) ∧ w' = w := Any.slices_Clone_int_nil Tryd.laysNm215 n c w
open Go.RowKit Go.Lib in
/-- The same at a slice of length 0 that is not nil, WHATEVER ITS ADDRESS (no cell is asked for): a slice that is not nil and owns nothing comes back. (LAID: no walk: one application.) -/
theorem Tryd.slices_Clone_int_zero (a : Addr) (c : Nat) (w : World) :
    Calls Tryd.prog 64 #[.slice (some a) 0 c] w fun e w' => ∃ v', e = .returned v' ∧ w'.ownsRow w.heap.size 3 1 v' 0 [] ∧ v' ≠ .slice none 0 0 ∧ Below w.heap.size w w' := Any.slices_Clone_int_zero Tryd.laysNm215 a c w
def Tryd.laysNm237_ren : Go.Shelf.Ren := ⟨fun | 37 => 79 | n => n, fun | 3 => 3 | 4 => 4 | n => n, fun | n => n⟩
theorem Tryd.laysNm237 : Go.Proofs.Lays2.n37 Tryd.prog Tryd.laysNm237_ren := {
  mixed := by kernel_rfl
  f37 := Tryd.func79.trans (congrArg some (by kernel_rfl))
  t3 := Tryd.underlying3
  a3 := Tryd.isAgg3
  z3 := Tryd.sizeOf3
  v3 := Tryd.zeroValue3
  t4 := Tryd.underlying4
  a4 := Tryd.isAgg4
  z4 := Tryd.sizeOf4
  v4 := Tryd.zeroValue4 }
open Go.RowKit Go.Lib in
/-- cmp.isNaN[int]: 'x != x': false. (LAID: no walk: one application.) -/
theorem Tryd.cmp_isNaN_int2 (x : Int) (w : World) :
    Calls Tryd.prog 79 #[.int .i64 x] w fun e w' => e = .returned (.bool false) ∧ w' = w := Any.cmp_isNaN_int2 Tryd.laysNm237 x w
def Tryd.laysNm232_ren : Go.Shelf.Ren := ⟨fun | 32 => 66 | n => n, fun | 3 => 3 | 4 => 4 | n => n, fun | n => n⟩
theorem Tryd.laysNm232 : Go.Proofs.Lays2.n32 Tryd.prog Tryd.laysNm232_ren := {
  mixed := by kernel_rfl
  f32 := Tryd.func66.trans (congrArg some (by kernel_rfl))
  t3 := Tryd.underlying3
  a3 := Tryd.isAgg3
  z3 := Tryd.sizeOf3
  v3 := Tryd.zeroValue3
  t4 := Tryd.underlying4
  a4 := Tryd.isAgg4
  z4 := Tryd.sizeOf4
  v4 := Tryd.zeroValue4 }
open Go.RowKit Go.Lib in
/-- slices.isNaN[int]: 'x != x': false. (LAID: no walk: one application.) -/
theorem Tryd.slices_isNaN_int2 (x : Int) (w : World) :
    Calls Tryd.prog 66 #[.int .i64 x] w fun e w' => e = .returned (.bool false) ∧ w' = w := Any.slices_isNaN_int2 Tryd.laysNm232 x w
def Tryd.laysNm231_ren : Go.Shelf.Ren := ⟨fun | 31 => 65 | 37 => 79 | n => n, fun | 3 => 3 | 4 => 4 | n => n, fun | n => n⟩
theorem Tryd.laysNm231 : Go.Proofs.Lays2.n31 Tryd.prog Tryd.laysNm231_ren := {
  mixed := by kernel_rfl
  f31 := Tryd.func65.trans (congrArg some (by kernel_rfl))
  f37 := Tryd.func79.trans (congrArg some (by kernel_rfl))
  t3 := Tryd.underlying3
  a3 := Tryd.isAgg3
  z3 := Tryd.sizeOf3
  v3 := Tryd.zeroValue3
  t4 := Tryd.underlying4
  a4 := Tryd.isAgg4
  z4 := Tryd.sizeOf4
  v4 := Tryd.zeroValue4 }
open Go.RowKit Go.Lib in
/-- cmp.Less[int]: "Less reports whether x is less than y.": 'x < y'; the world is as it was. (LAID: no walk: one application.) -/
theorem Tryd.cmp_Less_int2 (x y : Int) (w : World) :
    Calls Tryd.prog 65 #[.int .i64 x, .int .i64 y] w fun e w' => e = .returned (.bool (decide (x < y))) ∧ w' = w := Any.cmp_Less_int2 Tryd.laysNm231 x y w
def Tryd.laysNm225_ren : Go.Shelf.Ren := ⟨fun | 25 => 45 | 31 => 65 | 32 => 66 | 37 => 79 | n => n, fun | 22 => 23 | 3 => 3 | 4 => 4 | 40 => 115 | 0 => 0 | n => n, fun | n => n⟩
theorem Tryd.laysNm225 : Go.Proofs.Lays2.n25 Tryd.prog Tryd.laysNm225_ren := {
  mixed := by kernel_rfl
  f25 := Tryd.func45.trans (congrArg some (by kernel_rfl))
  f31 := Tryd.func65.trans (congrArg some (by kernel_rfl))
  f32 := Tryd.func66.trans (congrArg some (by kernel_rfl))
  f37 := Tryd.func79.trans (congrArg some (by kernel_rfl))
  t0 := Tryd.underlying0
  a0 := Tryd.isAgg0
  z0 := Tryd.sizeOf0
  v0 := Tryd.zeroValue0
  t3 := Tryd.underlying3
  a3 := Tryd.isAgg3
  z3 := Tryd.sizeOf3
  v3 := Tryd.zeroValue3
  t4 := Tryd.underlying4
  a4 := Tryd.isAgg4
  z4 := Tryd.sizeOf4
  v4 := Tryd.zeroValue4
  t22 := Tryd.underlying23
  a22 := Tryd.isAgg23
  z22 := Tryd.sizeOf23
  v22 := Tryd.zeroValue23
  t40 := Tryd.underlying115
  a40 := Tryd.isAgg115
  z40 := Tryd.sizeOf115
  v40 := Tryd.zeroValue115 }
open Go.RowKit Go.Lib in
/-- slices.BinarySearch at []int: "BinarySearch searches for target in a sorted slice and returns the earliest position where target is found, or the position where target would appear in the sort order; it also returns a bool saying whether the target is really found in the slice. The slice must be sorted in increasing order.": OF A SORTED SLICE IT RETURNS how many elements are less than the target, and whether the target is among the elements; the world is as it was but for the count of draws. 'zs': what the cells behind the slice's address hold; 'zs.take n': its elements. (Of a slice that is not sorted: no contract here.) (LAID: no walk: one application.) -/
theorem Tryd.slices_BinarySearch_int (b off n c : Nat) (zs : List Int) (x : Int) (w : World) (hz : n ≤ zs.length) (hbig : n < 4611686018427387904) (hc : ∀ j, j < zs.length → w.cell? ⟨b, off + j, none⟩ = some (.int .i64 (zs.getD j 0))) (hs : (zs.take n).Pairwise (· ≤ ·)) :
    Calls Tryd.prog 45 #[.slice (some ⟨b, off, none⟩) n c, .int .i64 x] w fun e w' => e = .returned (.tuple #[.int .i64 ((zs.take n).countP (· < x) : Nat), .bool ((zs.take n).contains x)]) ∧ ∃ q, w' = w.drewN q := Any.slices_BinarySearch_int Tryd.laysNm225 b off n c zs x w hz hbig hc hs
def Tryd.laysNm223_ren : Go.Shelf.Ren := ⟨fun | 23 => 47 | n => n, fun | 22 => 23 | 3 => 3 | 4 => 4 | 0 => 0 | n => n, fun | n => n⟩
theorem Tryd.laysNm223 : Go.Proofs.Lays2.n23 Tryd.prog Tryd.laysNm223_ren := {
  mixed := by kernel_rfl
  f23 := Tryd.func47.trans (congrArg some (by kernel_rfl))
  t0 := Tryd.underlying0
  a0 := Tryd.isAgg0
  z0 := Tryd.sizeOf0
  v0 := Tryd.zeroValue0
  t3 := Tryd.underlying3
  a3 := Tryd.isAgg3
  z3 := Tryd.sizeOf3
  v3 := Tryd.zeroValue3
  t4 := Tryd.underlying4
  a4 := Tryd.isAgg4
  z4 := Tryd.sizeOf4
  v4 := Tryd.zeroValue4
  t22 := Tryd.underlying23
  a22 := Tryd.isAgg23
  z22 := Tryd.sizeOf23
  v22 := Tryd.zeroValue23
  i3 := by kernel_rfl }
open Go.RowKit Go.Lib Go.Sort in
/-- slices.Delete at []int, over an array. (LAID: no walk: one application.) -/
theorem Tryd.slices_Delete_int_arr (blk off cap i j : Nat) (d : Array Int) (w : World) (hH : Holds encI w blk off d) (hcap : d.size ≤ cap) (hm : cap ≤ 9223372036854775807) (hij : i ≤ j) (hj : j ≤ d.size) :
    Calls Tryd.prog 47 #[.slice (some ⟨blk, off, none⟩) d.size cap, .int .i64 i, .int .i64 j] w fun e w' => e = .returned (.slice (some ⟨blk, off, none⟩) (d.size - (j - i)) cap) ∧ ∃ q, w' = putRow encI (Sort.ahead w q) blk off (d.toList.take i ++ d.toList.drop j ++ List.replicate (j - i) 0).toArray := Any.slices_Delete_int_arr Tryd.laysNm223 blk off cap i j d w hH hcap hm hij hj
open Go.RowKit Go.Lib Go.Sort in
/-- slices.Delete at []int: "Delete modifies s in place by removing the elements s[i:j], and returns the modified slice. Delete panics if j > len(s) or s[i:j] is not a valid slice of s. Delete is O(len(s)-i), so if many items must be deleted, it is better to make a single call deleting them all together than to delete one at a time. Delete zeroes the elements s[len(s)-(j-i):len(s)]. If the result is empty, it has the same nilness as s.": FOR i ≤ j ≤ len(s) IT RETURNS THE SLICE CUT TO len(s) - (j - i) ELEMENTS; ITS CELLS HOLD what stood ahead of i, what stood from j on, then j - i zero values; all else is as it was, but for the count of draws. IN THE WORDS OF slices.Sort's CONTRACT ('Holds', 'putRow'). It asks 'zs.length ≤ cap ≤ 2^63 - 1' (every slice's). (Outside i ≤ j ≤ len(s) it panics: no contract here.) (LAID: no walk: one application.) -/
theorem Tryd.slices_Delete_int (blk off cap i j : Nat) (zs : List Int) (w : World) (hH : Holds (Value.int .i64) w blk off zs.toArray) (hcap : zs.length ≤ cap) (hm : cap ≤ 9223372036854775807) (hij : i ≤ j) (hj : j ≤ zs.length) :
    Calls Tryd.prog 47 #[.slice (some ⟨blk, off, none⟩) zs.length cap, .int .i64 i, .int .i64 j] w fun e w' => e = .returned (.slice (some ⟨blk, off, none⟩) (zs.length - (j - i)) cap) ∧ ∃ q, w' = putRow (Value.int .i64) (Sort.ahead w q) blk off (zs.take i ++ zs.drop j ++ List.replicate (j - i) 0).toArray := Any.slices_Delete_int Tryd.laysNm223 blk off cap i j zs w hH hcap hm hij hj
open Go.RowKit Go.Lib Go.Sort in
/-- slices.Reverse at []int, of an argument: the n cells hold the elements in reverse. (LAID: no walk: one application.) -/
theorem Tryd.slices_Reverse_int_cells (b off n c : Nat) (zs : List Int) (w : World) (hz : n ≤ zs.length) (hbig : n ≤ 9223372036854775807) (hc : ∀ j, j < zs.length → w.cell? ⟨b, off + j, none⟩ = some (.int .i64 (zs.getD j 0))) (hf : ∀ j, j < n → w.frozen? ⟨b, off + j, none⟩ = false) :
    Calls Tryd.prog 87 #[.slice (some ⟨b, off, none⟩) n c] w fun e w' => e = .returned (.tuple #[]) ∧ ∃ q, w' = (w.drewN q).setCells b off ((zs.take n).reverse.map (Value.int .i64)) := Any.slices_Reverse_int_cells Tryd.lays112 b off n c zs w hz hbig hc hf
open Go.RowKit Go.Lib Go.Sort in
/-- slices.Delete at []int, of an argument, for i ≤ j ≤ n: the slice cut to n - (j - i) elements; the n cells hold what stood ahead of i, what stood from j on, then zeros. (LAID: no walk: one application.) -/
theorem Tryd.slices_Delete_int_cells (b off n c i j : Nat) (zs : List Int) (w : World) (hz : n ≤ zs.length) (hcap : n ≤ c) (hm : c ≤ 9223372036854775807) (hij : i ≤ j) (hj : j ≤ n) (hc : ∀ j, j < zs.length → w.cell? ⟨b, off + j, none⟩ = some (.int .i64 (zs.getD j 0))) (hf : ∀ j, j < n → w.frozen? ⟨b, off + j, none⟩ = false) :
    Calls Tryd.prog 47 #[.slice (some ⟨b, off, none⟩) n c, .int .i64 i, .int .i64 j] w fun e w' => e = .returned (.slice (some ⟨b, off, none⟩) (n - (j - i)) c) ∧ ∃ q, w' = (w.drewN q).setCells b off (((zs.take n).take i ++ (zs.take n).drop j ++ List.replicate (j - i) 0).map (Value.int .i64)) := Any.slices_Delete_int_cells Tryd.laysNm223 b off n c i j zs w hz hcap hm hij hj hc hf
open Go.RowKit Go.Lib in
/-- slices.BinarySearch at []int of no element: position 0, not found; the world is as it was. (LAID: no walk: one application.) -/
theorem Tryd.slices_BinarySearch_int_empty (a : Option Addr) (c : Nat) (x : Int) (w : World) :
    Calls Tryd.prog 45 #[.slice a 0 c, .int .i64 x] w fun e w' => e = .returned (.tuple #[.int .i64 0, .bool false]) ∧ w' = w := Any.slices_BinarySearch_int_empty Tryd.laysNm225 a c x w
open Go.RowKit Go.Lib in
/-- slices.Delete at []int of no element ('Delete(s, 0, 0)'): s comes back; the world is as it was. (LAID: no walk: one application.) -/
theorem Tryd.slices_Delete_int_empty (a : Option Addr) (c : Nat) (w : World) :
    Calls Tryd.prog 47 #[.slice a 0 c, .int .i64 0, .int .i64 0] w fun e w' => e = .returned (.slice a 0 c) ∧ w' = w := Any.slices_Delete_int_empty Tryd.laysNm223 a c w
end Go.Proofs

/- strings.SplitSeq at a separator of one byte: its iterator, which keeps the rest in a cell of its own. -/
namespace Go.Proofs.YteolglmifimnaaaDoor
open Go.RowKit Go.Shelf
attribute [local go_sem] Oper.semAt_some
/-- the parts of a text between slashes -/
def stepsB (s : ByteArray) : List ByteArray :=
  if h : 0 ≤ Lib.indexByte s.data.toList 47 ∧ (Lib.indexByte s.data.toList 47).toNat < s.size then s.extract 0 (Lib.indexByte s.data.toList 47).toNat :: stepsB (s.extract ((Lib.indexByte s.data.toList 47).toNat + 1) s.size) else [s]
termination_by s.size
decreasing_by rw [ByteArray.size_extract]; omega
theorem index_lt {s : ByteArray} {o : Nat} (h : Lib.indexByte s.data.toList 47 = o) : o < s.size := by
  have := (Lib.indexByte_some h).1
  have h2 := (List.getElem?_eq_some_iff.1 this).1
  simpa using h2
theorem stepsB_no {s : ByteArray} (h : Lib.indexByte s.data.toList 47 < 0) : stepsB s = [s] := by
  rw [stepsB, dif_neg (fun k => by omega)]
theorem stepsB_yes {s : ByteArray} {o : Nat} (h : Lib.indexByte s.data.toList 47 = o) : stepsB s = s.extract 0 o :: stepsB (s.extract (o + 1) s.size) := by
  have := index_lt h
  rw [stepsB, dif_pos ⟨by omega, by omega⟩, h]
  rfl
def leftS (b : Nat) (w : World) : Nat := match w.cell? ⟨b, 0, none⟩ with
  | some (.string r) => r.size
  | _ => 0
theorem leftS_eq {b : Nat} {w : World} {r : ByteArray} (h : w.cell? ⟨b, 0, none⟩ = some (.string r)) : leftS b w = r.size := by unfold leftS; rw [h]
set_option maxHeartbeats 1000000 in
theorem split_stops (n : Nat) (hn : 1 ≤ n) (w : World) (b b1 b2 : Nat) (s : ByteArray) (c0 : w.cell? ⟨b, 0, none⟩ = some (.string s)) (f0 : w.frozen? ⟨b, 0, none⟩ = false) (c1 : w.cell? ⟨b1, 0, none⟩ = some (.string ⟨#[47]⟩)) (c2 : w.cell? ⟨b2, 0, none⟩ = some (.int .i64 0)) (n1 : b1 ≠ b) (n2 : b2 ≠ b) (hs : s.size ≤ 4611686018427387904) :
    SeqCells Fence.wide n Tryd.prog 83 #[.pointer (some ⟨b1, 0, none⟩), .pointer (some ⟨b, 0, none⟩), .pointer (some ⟨b2, 0, none⟩)] (fun x : ByteArray => #[.string x]) b w.heap.size (stepsB s) w := by
  intro l J Jx W hW hJs hY h0
  have hb : b < w.heap.size := World.block_lt_of_cell? w _ c0
  have hb1 : b1 < w.heap.size := World.block_lt_of_cell? w _ c1
  have hb2 : b2 < w.heap.size := World.block_lt_of_cell? w _ c2
  have C0 := (hW.cell (p := ⟨b, 0, none⟩) hb).trans c0
  have C1 := (hW.cell (p := ⟨b1, 0, none⟩) hb1).trans c1
  have C2 := (hW.cell (p := ⟨b2, 0, none⟩) hb2).trans c2
  have F0 := (World.frozen?_of_block (a := ⟨b, 0, none⟩) (hW.block b hb)).trans f0
  refine callsIn_of_wp Tryd.func83 rfl trivial ?_ rfl
  simp only [Tryd.ntmps83, List.size_toArray, List.length_cons, List.length_nil, Nat.reduceAdd, Nat.reduceSub, Array.replicate_succ, Array.replicate_zero, List.push_toArray, List.append_toArray, List.nil_append, List.cons_append]
  gi_wp2
  gi_loopw [7] (fun i wr => ∃ (k : Int) (pre : List ByteArray) (r : ByteArray), (i = .int .i64 k ∨ i = undef) ∧ Hid (pre ++ stepsB r = stepsB s) ∧ J pre wr ∧ wr.cell? ⟨b, 0, none⟩ = some (.string r) ∧ wr.cell? ⟨b1, 0, none⟩ = some (.string ⟨#[47]⟩) ∧ wr.cell? ⟨b2, 0, none⟩ = some (.int .i64 0) ∧ wr.frozen? ⟨b, 0, none⟩ = false ∧ r.size ≤ s.size) (fun _ wr => leftS b wr)
  case atStart => exact ⟨0, [], s, .inr rfl, Lib.hid rfl, h0, C0, C1, C2, F0, Nat.le_refl _⟩
  case round =>
    obtain ⟨k, pre, r, _, hst, hJ, d0, d1, d2, df, hrs⟩ := hrel
    clear C0 C1 C2 F0 c0 c1 c2 f0
    have hm := leftS_eq d0
    have hge := Lib.indexByte_ge r.data.toList 47
    rcases Int.lt_or_le (Lib.indexByte r.data.toList 47) 0 with hi | hi
    · have hlast := stepsB_no hi
      have hi1 : Lib.indexByte r.data.toList 47 = -1 := by omega
      obtain ⟨fn, tmps, assign, body, hy, hR⟩ := hY pre r wr hJ (by rw [← hst.out, hlast]; exact List.prefix_refl _)
      have HST := Lib.hid (show pre ++ [r] = stepsB s by rw [← hst.out, hlast])
      clear hst hlast hY
      gi_wp2_with (refine ⟨trivial, ?_⟩; gi_at_call 85; refine (callsIn_wide.2 (Tryd.strings_Index_one _ _ _)).mono ?_; rintro e w' ⟨rfl, rfl⟩; rw [hi1])
      refine hR.mono ?_
      rintro e W3 (⟨rfl, hJ3, hk3⟩ | ⟨rfl, hJx3⟩)
      · gi_wp2
        go_end0
        exact ⟨⟨_, rfl⟩, .inl (by rw [← HST.out]; exact hJ3)⟩
      · gi_wp2
        go_end0
        exact ⟨⟨_, rfl⟩, .inr ⟨_, hJx3⟩⟩
    · obtain ⟨o, ho⟩ := Int.eq_ofNat_of_zero_le hi
      have hlt := index_lt ho
      have hyes := stepsB_yes ho
      obtain ⟨fn, tmps, assign, body, hy, hR⟩ := hY pre (r.extract 0 o) wr hJ (by rw [← hst.out, hyes]; exact ⟨stepsB (r.extract (o + 1) r.size), by simp⟩)
      have HST := Lib.hid (show (pre ++ [r.extract 0 o]) ++ stepsB (r.extract (o + 1) r.size) = stepsB s by rw [← hst.out, hyes, List.append_assoc]; rfl)
      clear hst hyes hY
      gi_wp2_with (refine ⟨trivial, ?_⟩; gi_at_call 85; refine (callsIn_wide.2 (Tryd.strings_Index_one _ _ _)).mono ?_; rintro e w' ⟨rfl, rfl⟩; rw [ho])
      refine hR.mono ?_
      rintro e W3 (⟨rfl, hJ3, hk3⟩ | ⟨rfl, hJx3⟩)
      · have e0 := (hk3.cell (p := ⟨b, 0, none⟩) hb).trans d0
        have e1 := (hk3.cell (p := ⟨b1, 0, none⟩) hb1).trans d1
        have e2 := (hk3.cell (p := ⟨b2, 0, none⟩) hb2).trans d2
        have ef := (World.frozen?_of_block (a := ⟨b, 0, none⟩) (hk3.block b hb)).trans df
        clear d0 d1 d2 df
        gi_wp2
        have g0 : (W3.setCell ⟨b, 0, none⟩ (.string (r.extract (o + 1) r.size))).cell? ⟨b, 0, none⟩ = some (.string (r.extract (o + 1) r.size)) := World.cell?_setCell_same' _ _ _ (by rw [e0]; rfl)
        have hsz : (r.extract (o + 1) r.size).size = r.size - (o + 1) := by rw [ByteArray.size_extract]; omega
        go_roundw
        case rel => exact ⟨_, _, _, .inl rfl, HST, hJs _ _ _ hJ3, g0, (World.cell?_setCell_other _ _ _ _ (fun h => n1 (by injection h with h; exact h.symm))).trans e1, (World.cell?_setCell_other _ _ _ _ (fun h => n2 (by injection h with h; exact h.symm))).trans e2, by rw [World.frozen?_setCell]; exact ef, by omega⟩
        case measure => rw [leftS_eq g0, hm, hsz]; omega
      · gi_wp2
        refine bodyPost_ret (results_none rfl _ _ _) rfl ?_
        exact ⟨⟨_, rfl⟩, .inr ⟨_, hJx3⟩⟩
end Go.Proofs.YteolglmifimnaaaDoor

/- The program's flat structs as structures of Lean, the cells in which they lie, and what is known of slices of them. -/
namespace Go.Proofs.YteolglmifimnaaaDoor
open Go.RowKit
theorem elInt : El Tryd.prog 23 3 (.int .i64 0) 1 8 := ⟨Tryd.underlying23, by kernel_rfl, rfl, by decide⟩
theorem cInt_one : ∀ x : Int, ∀ u ∈ cInt x, u.oneCell' = true := by intro x u hu; simp [cInt] at hu; subst hu; rfl
def cStr (z : ByteArray) : List Value := [.string z]
theorem elStr : El Tryd.prog 28 9 (.string ByteArray.empty) 1 16 := ⟨Tryd.underlying28, by kernel_rfl, rfl, by decide⟩
theorem cStr_one : ∀ x : ByteArray, ∀ u ∈ cStr x, u.oneCell' = true := by intro x u hu; simp [cStr] at hu; subst hu; rfl
def cByte (z : UInt8) : List Value := [.int .u8 z.toNat]
theorem elByte : El Tryd.prog 111 5 (.int .u8 0) 1 1 := ⟨Tryd.underlying111, by kernel_rfl, rfl, by decide⟩

structure Watch where
  session : Int
  kind : Int
  path : ByteArray
def cWatch (x : Watch) : List Value := [.int .i64 x.session, .int .i64 x.kind, .string x.path]
def Watch.ok (x : Watch) : Prop := I64 x.session ∧ I64 x.kind ∧ x.path.size ≤ maxLen
theorem cWatch_one : ∀ x : Watch, ∀ u ∈ cWatch x, u.oneCell' = true := by
  intro x u hu
  simp [cWatch] at hu
  rcases hu with rfl | rfl | rfl <;> rfl
theorem fitsWatch {x : List Value} (h : Fits [.i .i64, .i .i64, .s] x) : ∃ t : Watch, x = cWatch t ∧ t.ok := by
  have r0 := h
  obtain ⟨z0, u0, rfl, o0, r1⟩ := fits_i r0
  obtain ⟨z1, u1, rfl, o1, r2⟩ := fits_i r1
  obtain ⟨z2, u2, rfl, o2, r3⟩ := fits_s r2
  obtain rfl := r3.nil
  exact ⟨⟨z0, z1, z2⟩, rfl, o0, o1, o2⟩
theorem Sl.Watch_at {w : World} {A : Option Addr} {n c : Nat} {l : List Watch} (h : Sl cWatch 3 w (.slice A n c) l) {i : Nat} {x : Watch} (hx : l[i]? = some x) : ∃ b off, A = some ⟨b, off, none⟩ ∧ b < w.heap.size ∧ w.cell? ⟨b, off + i * 3, none⟩ = some (.int .i64 x.session) ∧ w.cell? ⟨b, off + i * 3 + 1, none⟩ = some (.int .i64 x.kind) ∧ w.cell? ⟨b, off + i * 3 + 2, none⟩ = some (.string x.path) := by
  obtain ⟨b, off, rfl, hb, hc⟩ := h.at_ hx
  exact ⟨b, off, rfl, hb, hc 0 _ rfl, hc 1 _ rfl, hc 2 _ rfl⟩
structure Event where
  kind : Int
  path : ByteArray
def cEvent (x : Event) : List Value := [.int .i64 x.kind, .string x.path]
def Event.ok (x : Event) : Prop := I64 x.kind ∧ x.path.size ≤ maxLen
theorem cEvent_one : ∀ x : Event, ∀ u ∈ cEvent x, u.oneCell' = true := by
  intro x u hu
  simp [cEvent] at hu
  rcases hu with rfl | rfl <;> rfl
theorem fitsEvent {x : List Value} (h : Fits [.i .i64, .s] x) : ∃ t : Event, x = cEvent t ∧ t.ok := by
  have r0 := h
  obtain ⟨z0, u0, rfl, o0, r1⟩ := fits_i r0
  obtain ⟨z1, u1, rfl, o1, r2⟩ := fits_s r1
  obtain rfl := r2.nil
  exact ⟨⟨z0, z1⟩, rfl, o0, o1⟩
theorem Sl.Event_at {w : World} {A : Option Addr} {n c : Nat} {l : List Event} (h : Sl cEvent 2 w (.slice A n c) l) {i : Nat} {x : Event} (hx : l[i]? = some x) : ∃ b off, A = some ⟨b, off, none⟩ ∧ b < w.heap.size ∧ w.cell? ⟨b, off + i * 2, none⟩ = some (.int .i64 x.kind) ∧ w.cell? ⟨b, off + i * 2 + 1, none⟩ = some (.string x.path) := by
  obtain ⟨b, off, rfl, hb, hc⟩ := h.at_ hx
  exact ⟨b, off, rfl, hb, hc 0 _ rfl, hc 1 _ rfl⟩
theorem elEvent : El Tryd.prog 50 55 (.agg #[.int .i64 0, .string ByteArray.empty]) 2 24 := ⟨Tryd.underlying50, by kernel_rfl, rfl, by decide⟩

structure Note where
  session : Int
  kind : Int
  path : ByteArray
def cNote (x : Note) : List Value := [.int .i64 x.session, .int .i64 x.kind, .string x.path]
def Note.ok (x : Note) : Prop := I64 x.session ∧ I64 x.kind ∧ x.path.size ≤ maxLen
theorem cNote_one : ∀ x : Note, ∀ u ∈ cNote x, u.oneCell' = true := by
  intro x u hu
  simp [cNote] at hu
  rcases hu with rfl | rfl | rfl <;> rfl
theorem fitsNote {x : List Value} (h : Fits [.i .i64, .i .i64, .s] x) : ∃ t : Note, x = cNote t ∧ t.ok := by
  have r0 := h
  obtain ⟨z0, u0, rfl, o0, r1⟩ := fits_i r0
  obtain ⟨z1, u1, rfl, o1, r2⟩ := fits_i r1
  obtain ⟨z2, u2, rfl, o2, r3⟩ := fits_s r2
  obtain rfl := r3.nil
  exact ⟨⟨z0, z1, z2⟩, rfl, o0, o1, o2⟩
theorem Sl.Note_at {w : World} {A : Option Addr} {n c : Nat} {l : List Note} (h : Sl cNote 3 w (.slice A n c) l) {i : Nat} {x : Note} (hx : l[i]? = some x) : ∃ b off, A = some ⟨b, off, none⟩ ∧ b < w.heap.size ∧ w.cell? ⟨b, off + i * 3, none⟩ = some (.int .i64 x.session) ∧ w.cell? ⟨b, off + i * 3 + 1, none⟩ = some (.int .i64 x.kind) ∧ w.cell? ⟨b, off + i * 3 + 2, none⟩ = some (.string x.path) := by
  obtain ⟨b, off, rfl, hb, hc⟩ := h.at_ hx
  exact ⟨b, off, rfl, hb, hc 0 _ rfl, hc 1 _ rfl, hc 2 _ rfl⟩
structure Entry where
  path : ByteArray
  data : ByteArray
  there_ : Bool
def cEntry (x : Entry) : List Value := [.string x.path, .string x.data, .bool x.there_]
def Entry.ok (x : Entry) : Prop := x.path.size ≤ maxLen ∧ x.data.size ≤ maxLen
theorem cEntry_one : ∀ x : Entry, ∀ u ∈ cEntry x, u.oneCell' = true := by
  intro x u hu
  simp [cEntry] at hu
  rcases hu with rfl | rfl | rfl <;> rfl
theorem fitsEntry {x : List Value} (h : Fits [.s, .s, .b] x) : ∃ t : Entry, x = cEntry t ∧ t.ok := by
  have r0 := h
  obtain ⟨z0, u0, rfl, o0, r1⟩ := fits_s r0
  obtain ⟨z1, u1, rfl, o1, r2⟩ := fits_s r1
  obtain ⟨z2, u2, rfl, r3⟩ := fits_b r2
  obtain rfl := r3.nil
  exact ⟨⟨z0, z1, z2⟩, rfl, o0, o1⟩
theorem Sl.Entry_at {w : World} {A : Option Addr} {n c : Nat} {l : List Entry} (h : Sl cEntry 3 w (.slice A n c) l) {i : Nat} {x : Entry} (hx : l[i]? = some x) : ∃ b off, A = some ⟨b, off, none⟩ ∧ b < w.heap.size ∧ w.cell? ⟨b, off + i * 3, none⟩ = some (.string x.path) ∧ w.cell? ⟨b, off + i * 3 + 1, none⟩ = some (.string x.data) ∧ w.cell? ⟨b, off + i * 3 + 2, none⟩ = some (.bool x.there_) := by
  obtain ⟨b, off, rfl, hb, hc⟩ := h.at_ hx
  exact ⟨b, off, rfl, hb, hc 0 _ rfl, hc 1 _ rfl, hc 2 _ rfl⟩
structure Txn where
  zxid : Int
  op : Int
  session : Int
  path : ByteArray
  data : ByteArray
  version : Int
  owner : Int
def cTxn (x : Txn) : List Value := [.int .i64 x.zxid, .int .i64 x.op, .int .i64 x.session, .string x.path, .string x.data, .int .i64 x.version, .int .i64 x.owner]
def Txn.ok (x : Txn) : Prop := I64 x.zxid ∧ I64 x.op ∧ I64 x.session ∧ x.path.size ≤ maxLen ∧ x.data.size ≤ maxLen ∧ I64 x.version ∧ I64 x.owner
theorem cTxn_one : ∀ x : Txn, ∀ u ∈ cTxn x, u.oneCell' = true := by
  intro x u hu
  simp [cTxn] at hu
  rcases hu with rfl | rfl | rfl | rfl | rfl | rfl | rfl <;> rfl
theorem fitsTxn {x : List Value} (h : Fits [.i .i64, .i .i64, .i .i64, .s, .s, .i .i64, .i .i64] x) : ∃ t : Txn, x = cTxn t ∧ t.ok := by
  have r0 := h
  obtain ⟨z0, u0, rfl, o0, r1⟩ := fits_i r0
  obtain ⟨z1, u1, rfl, o1, r2⟩ := fits_i r1
  obtain ⟨z2, u2, rfl, o2, r3⟩ := fits_i r2
  obtain ⟨z3, u3, rfl, o3, r4⟩ := fits_s r3
  obtain ⟨z4, u4, rfl, o4, r5⟩ := fits_s r4
  obtain ⟨z5, u5, rfl, o5, r6⟩ := fits_i r5
  obtain ⟨z6, u6, rfl, o6, r7⟩ := fits_i r6
  obtain rfl := r7.nil
  exact ⟨⟨z0, z1, z2, z3, z4, z5, z6⟩, rfl, o0, o1, o2, o3, o4, o5, o6⟩
theorem Sl.Txn_at {w : World} {A : Option Addr} {n c : Nat} {l : List Txn} (h : Sl cTxn 7 w (.slice A n c) l) {i : Nat} {x : Txn} (hx : l[i]? = some x) : ∃ b off, A = some ⟨b, off, none⟩ ∧ b < w.heap.size ∧ w.cell? ⟨b, off + i * 7, none⟩ = some (.int .i64 x.zxid) ∧ w.cell? ⟨b, off + i * 7 + 1, none⟩ = some (.int .i64 x.op) ∧ w.cell? ⟨b, off + i * 7 + 2, none⟩ = some (.int .i64 x.session) ∧ w.cell? ⟨b, off + i * 7 + 3, none⟩ = some (.string x.path) ∧ w.cell? ⟨b, off + i * 7 + 4, none⟩ = some (.string x.data) ∧ w.cell? ⟨b, off + i * 7 + 5, none⟩ = some (.int .i64 x.version) ∧ w.cell? ⟨b, off + i * 7 + 6, none⟩ = some (.int .i64 x.owner) := by
  obtain ⟨b, off, rfl, hb, hc⟩ := h.at_ hx
  exact ⟨b, off, rfl, hb, hc 0 _ rfl, hc 1 _ rfl, hc 2 _ rfl, hc 3 _ rfl, hc 4 _ rfl, hc 5 _ rfl, hc 6 _ rfl⟩
theorem elTxn : El Tryd.prog 63 49 (.agg #[.int .i64 0, .int .i64 0, .int .i64 0, .string ByteArray.empty, .string ByteArray.empty, .int .i64 0, .int .i64 0]) 7 72 := ⟨Tryd.underlying63, by kernel_rfl, rfl, by decide⟩

structure File where
  name : ByteArray
  safe : ByteArray
  tail : ByteArray
def cFile (x : File) : List Value := [.string x.name, .string x.safe, .string x.tail]
def File.ok (x : File) : Prop := x.name.size ≤ maxLen ∧ x.safe.size ≤ maxLen ∧ x.tail.size ≤ maxLen
theorem cFile_one : ∀ x : File, ∀ u ∈ cFile x, u.oneCell' = true := by
  intro x u hu
  simp [cFile] at hu
  rcases hu with rfl | rfl | rfl <;> rfl
theorem fitsFile {x : List Value} (h : Fits [.s, .s, .s] x) : ∃ t : File, x = cFile t ∧ t.ok := by
  have r0 := h
  obtain ⟨z0, u0, rfl, o0, r1⟩ := fits_s r0
  obtain ⟨z1, u1, rfl, o1, r2⟩ := fits_s r1
  obtain ⟨z2, u2, rfl, o2, r3⟩ := fits_s r2
  obtain rfl := r3.nil
  exact ⟨⟨z0, z1, z2⟩, rfl, o0, o1, o2⟩
theorem Sl.File_at {w : World} {A : Option Addr} {n c : Nat} {l : List File} (h : Sl cFile 3 w (.slice A n c) l) {i : Nat} {x : File} (hx : l[i]? = some x) : ∃ b off, A = some ⟨b, off, none⟩ ∧ b < w.heap.size ∧ w.cell? ⟨b, off + i * 3, none⟩ = some (.string x.name) ∧ w.cell? ⟨b, off + i * 3 + 1, none⟩ = some (.string x.safe) ∧ w.cell? ⟨b, off + i * 3 + 2, none⟩ = some (.string x.tail) := by
  obtain ⟨b, off, rfl, hb, hc⟩ := h.at_ hx
  exact ⟨b, off, rfl, hb, hc 0 _ rfl, hc 1 _ rfl, hc 2 _ rfl⟩
structure Node where
  path : ByteArray
  data : ByteArray
  czxid : Int
  mzxid : Int
  pzxid : Int
  version : Int
  cversion : Int
  owner : Int
  kids : Int
def cNode (x : Node) : List Value := [.string x.path, .string x.data, .int .i64 x.czxid, .int .i64 x.mzxid, .int .i64 x.pzxid, .int .i64 x.version, .int .i64 x.cversion, .int .i64 x.owner, .int .i64 x.kids]
def Node.ok (x : Node) : Prop := x.path.size ≤ maxLen ∧ x.data.size ≤ maxLen ∧ I64 x.czxid ∧ I64 x.mzxid ∧ I64 x.pzxid ∧ I64 x.version ∧ I64 x.cversion ∧ I64 x.owner ∧ I64 x.kids
theorem cNode_one : ∀ x : Node, ∀ u ∈ cNode x, u.oneCell' = true := by
  intro x u hu
  simp [cNode] at hu
  rcases hu with rfl | rfl | rfl | rfl | rfl | rfl | rfl | rfl | rfl <;> rfl
theorem fitsNode {x : List Value} (h : Fits [.s, .s, .i .i64, .i .i64, .i .i64, .i .i64, .i .i64, .i .i64, .i .i64] x) : ∃ t : Node, x = cNode t ∧ t.ok := by
  have r0 := h
  obtain ⟨z0, u0, rfl, o0, r1⟩ := fits_s r0
  obtain ⟨z1, u1, rfl, o1, r2⟩ := fits_s r1
  obtain ⟨z2, u2, rfl, o2, r3⟩ := fits_i r2
  obtain ⟨z3, u3, rfl, o3, r4⟩ := fits_i r3
  obtain ⟨z4, u4, rfl, o4, r5⟩ := fits_i r4
  obtain ⟨z5, u5, rfl, o5, r6⟩ := fits_i r5
  obtain ⟨z6, u6, rfl, o6, r7⟩ := fits_i r6
  obtain ⟨z7, u7, rfl, o7, r8⟩ := fits_i r7
  obtain ⟨z8, u8, rfl, o8, r9⟩ := fits_i r8
  obtain rfl := r9.nil
  exact ⟨⟨z0, z1, z2, z3, z4, z5, z6, z7, z8⟩, rfl, o0, o1, o2, o3, o4, o5, o6, o7, o8⟩
theorem Sl.Node_at {w : World} {A : Option Addr} {n c : Nat} {l : List Node} (h : Sl cNode 9 w (.slice A n c) l) {i : Nat} {x : Node} (hx : l[i]? = some x) : ∃ b off, A = some ⟨b, off, none⟩ ∧ b < w.heap.size ∧ w.cell? ⟨b, off + i * 9, none⟩ = some (.string x.path) ∧ w.cell? ⟨b, off + i * 9 + 1, none⟩ = some (.string x.data) ∧ w.cell? ⟨b, off + i * 9 + 2, none⟩ = some (.int .i64 x.czxid) ∧ w.cell? ⟨b, off + i * 9 + 3, none⟩ = some (.int .i64 x.mzxid) ∧ w.cell? ⟨b, off + i * 9 + 4, none⟩ = some (.int .i64 x.pzxid) ∧ w.cell? ⟨b, off + i * 9 + 5, none⟩ = some (.int .i64 x.version) ∧ w.cell? ⟨b, off + i * 9 + 6, none⟩ = some (.int .i64 x.cversion) ∧ w.cell? ⟨b, off + i * 9 + 7, none⟩ = some (.int .i64 x.owner) ∧ w.cell? ⟨b, off + i * 9 + 8, none⟩ = some (.int .i64 x.kids) := by
  obtain ⟨b, off, rfl, hb, hc⟩ := h.at_ hx
  exact ⟨b, off, rfl, hb, hc 0 _ rfl, hc 1 _ rfl, hc 2 _ rfl, hc 3 _ rfl, hc 4 _ rfl, hc 5 _ rfl, hc 6 _ rfl, hc 7 _ rfl, hc 8 _ rfl⟩
theorem elNode : El Tryd.prog 22 40 (.agg #[.string ByteArray.empty, .string ByteArray.empty, .int .i64 0, .int .i64 0, .int .i64 0, .int .i64 0, .int .i64 0, .int .i64 0, .int .i64 0]) 9 88 := ⟨Tryd.underlying22, by kernel_rfl, rfl, by decide⟩

structure Request where
  op : Int
  session : Int
  path : ByteArray
  data : ByteArray
  version : Int
  flags : Int
def cRequest (x : Request) : List Value := [.int .i64 x.op, .int .i64 x.session, .string x.path, .string x.data, .int .i64 x.version, .int .i64 x.flags]
def Request.ok (x : Request) : Prop := I64 x.op ∧ I64 x.session ∧ x.path.size ≤ maxLen ∧ x.data.size ≤ maxLen ∧ I64 x.version ∧ I64 x.flags
theorem cRequest_one : ∀ x : Request, ∀ u ∈ cRequest x, u.oneCell' = true := by
  intro x u hu
  simp [cRequest] at hu
  rcases hu with rfl | rfl | rfl | rfl | rfl | rfl <;> rfl
theorem fitsRequest {x : List Value} (h : Fits [.i .i64, .i .i64, .s, .s, .i .i64, .i .i64] x) : ∃ t : Request, x = cRequest t ∧ t.ok := by
  have r0 := h
  obtain ⟨z0, u0, rfl, o0, r1⟩ := fits_i r0
  obtain ⟨z1, u1, rfl, o1, r2⟩ := fits_i r1
  obtain ⟨z2, u2, rfl, o2, r3⟩ := fits_s r2
  obtain ⟨z3, u3, rfl, o3, r4⟩ := fits_s r3
  obtain ⟨z4, u4, rfl, o4, r5⟩ := fits_i r4
  obtain ⟨z5, u5, rfl, o5, r6⟩ := fits_i r5
  obtain rfl := r6.nil
  exact ⟨⟨z0, z1, z2, z3, z4, z5⟩, rfl, o0, o1, o2, o3, o4, o5⟩
theorem Sl.Request_at {w : World} {A : Option Addr} {n c : Nat} {l : List Request} (h : Sl cRequest 6 w (.slice A n c) l) {i : Nat} {x : Request} (hx : l[i]? = some x) : ∃ b off, A = some ⟨b, off, none⟩ ∧ b < w.heap.size ∧ w.cell? ⟨b, off + i * 6, none⟩ = some (.int .i64 x.op) ∧ w.cell? ⟨b, off + i * 6 + 1, none⟩ = some (.int .i64 x.session) ∧ w.cell? ⟨b, off + i * 6 + 2, none⟩ = some (.string x.path) ∧ w.cell? ⟨b, off + i * 6 + 3, none⟩ = some (.string x.data) ∧ w.cell? ⟨b, off + i * 6 + 4, none⟩ = some (.int .i64 x.version) ∧ w.cell? ⟨b, off + i * 6 + 5, none⟩ = some (.int .i64 x.flags) := by
  obtain ⟨b, off, rfl, hb, hc⟩ := h.at_ hx
  exact ⟨b, off, rfl, hb, hc 0 _ rfl, hc 1 _ rfl, hc 2 _ rfl, hc 3 _ rfl, hc 4 _ rfl, hc 5 _ rfl⟩
structure Deed where
  kind : Int
  client : Int
  server : Int
  op : Int
  session : Int
  path : ByteArray
  data : ByteArray
  version : Int
  flags : Int
  lost : Int
  slow : Int
  keep : Int
  watch : Bool
def cDeed (x : Deed) : List Value := [.int .i64 x.kind, .int .i64 x.client, .int .i64 x.server, .int .i64 x.op, .int .i64 x.session, .string x.path, .string x.data, .int .i64 x.version, .int .i64 x.flags, .int .i64 x.lost, .int .i64 x.slow, .int .i64 x.keep, .bool x.watch]
def Deed.ok (x : Deed) : Prop := I64 x.kind ∧ I64 x.client ∧ I64 x.server ∧ I64 x.op ∧ I64 x.session ∧ x.path.size ≤ maxLen ∧ x.data.size ≤ maxLen ∧ I64 x.version ∧ I64 x.flags ∧ I64 x.lost ∧ I64 x.slow ∧ I64 x.keep
theorem cDeed_one : ∀ x : Deed, ∀ u ∈ cDeed x, u.oneCell' = true := by
  intro x u hu
  simp [cDeed] at hu
  rcases hu with rfl | rfl | rfl | rfl | rfl | rfl | rfl | rfl | rfl | rfl | rfl | rfl | rfl <;> rfl
theorem fitsDeed {x : List Value} (h : Fits [.i .i64, .i .i64, .i .i64, .i .i64, .i .i64, .s, .s, .i .i64, .i .i64, .i .i64, .i .i64, .i .i64, .b] x) : ∃ t : Deed, x = cDeed t ∧ t.ok := by
  have r0 := h
  obtain ⟨z0, u0, rfl, o0, r1⟩ := fits_i r0
  obtain ⟨z1, u1, rfl, o1, r2⟩ := fits_i r1
  obtain ⟨z2, u2, rfl, o2, r3⟩ := fits_i r2
  obtain ⟨z3, u3, rfl, o3, r4⟩ := fits_i r3
  obtain ⟨z4, u4, rfl, o4, r5⟩ := fits_i r4
  obtain ⟨z5, u5, rfl, o5, r6⟩ := fits_s r5
  obtain ⟨z6, u6, rfl, o6, r7⟩ := fits_s r6
  obtain ⟨z7, u7, rfl, o7, r8⟩ := fits_i r7
  obtain ⟨z8, u8, rfl, o8, r9⟩ := fits_i r8
  obtain ⟨z9, u9, rfl, o9, r10⟩ := fits_i r9
  obtain ⟨z10, u10, rfl, o10, r11⟩ := fits_i r10
  obtain ⟨z11, u11, rfl, o11, r12⟩ := fits_i r11
  obtain ⟨z12, u12, rfl, r13⟩ := fits_b r12
  obtain rfl := r13.nil
  exact ⟨⟨z0, z1, z2, z3, z4, z5, z6, z7, z8, z9, z10, z11, z12⟩, rfl, o0, o1, o2, o3, o4, o5, o6, o7, o8, o9, o10, o11⟩
theorem Sl.Deed_at {w : World} {A : Option Addr} {n c : Nat} {l : List Deed} (h : Sl cDeed 13 w (.slice A n c) l) {i : Nat} {x : Deed} (hx : l[i]? = some x) : ∃ b off, A = some ⟨b, off, none⟩ ∧ b < w.heap.size ∧ w.cell? ⟨b, off + i * 13, none⟩ = some (.int .i64 x.kind) ∧ w.cell? ⟨b, off + i * 13 + 1, none⟩ = some (.int .i64 x.client) ∧ w.cell? ⟨b, off + i * 13 + 2, none⟩ = some (.int .i64 x.server) ∧ w.cell? ⟨b, off + i * 13 + 3, none⟩ = some (.int .i64 x.op) ∧ w.cell? ⟨b, off + i * 13 + 4, none⟩ = some (.int .i64 x.session) ∧ w.cell? ⟨b, off + i * 13 + 5, none⟩ = some (.string x.path) ∧ w.cell? ⟨b, off + i * 13 + 6, none⟩ = some (.string x.data) ∧ w.cell? ⟨b, off + i * 13 + 7, none⟩ = some (.int .i64 x.version) ∧ w.cell? ⟨b, off + i * 13 + 8, none⟩ = some (.int .i64 x.flags) ∧ w.cell? ⟨b, off + i * 13 + 9, none⟩ = some (.int .i64 x.lost) ∧ w.cell? ⟨b, off + i * 13 + 10, none⟩ = some (.int .i64 x.slow) ∧ w.cell? ⟨b, off + i * 13 + 11, none⟩ = some (.int .i64 x.keep) ∧ w.cell? ⟨b, off + i * 13 + 12, none⟩ = some (.bool x.watch) := by
  obtain ⟨b, off, rfl, hb, hc⟩ := h.at_ hx
  exact ⟨b, off, rfl, hb, hc 0 _ rfl, hc 1 _ rfl, hc 2 _ rfl, hc 3 _ rfl, hc 4 _ rfl, hc 5 _ rfl, hc 6 _ rfl, hc 7 _ rfl, hc 8 _ rfl, hc 9 _ rfl, hc 10 _ rfl, hc 11 _ rfl, hc 12 _ rfl⟩
end Go.Proofs.YteolglmifimnaaaDoor

/- Contracts of package path that reach no library: Named, Serial. -/
namespace Go.Proofs.YteolglmifimnaaaDoor
open Go.RowKit

theorem ret_bool' {a b : Bool} (h : a = b) : Ending.returned (.bool a) = Ending.returned (.bool b) := by rw [h]
/-- a letter, a digit, '-' or '_' -/
def okc (c : UInt8) : Bool := decide ((97 ≤ c.toNat ∧ c.toNat ≤ 122) ∨ (48 ≤ c.toNat ∧ c.toNat ≤ 57) ∨ c.toNat = 45 ∨ c.toNat = 95)
/-- may these bytes be one step of a path? -/
def named (l : List UInt8) : Bool := l.all okc && decide (0 < l.length) && decide (l.length ≤ 40)
def bs (s : ByteArray) : List UInt8 := s.data.toList
@[simp] theorem length_bs (s : ByteArray) : (bs s).length = s.size := by
  show s.data.toList.length = s.data.size
  simp
theorem bs_get (s : ByteArray) (k : Nat) (h : k < s.size) : (bs s)[k]'(by simpa using h) = s[k] := rfl

theorem all_take_succ (s : ByteArray) (k : Nat) (h : k < s.size) : ((bs s).take (k + 1)).all okc = (((bs s).take k).all okc && okc s[k]) := by
  rw [List.take_succ_eq_append_getElem (by simpa using h), List.all_append, bs_get s k h]
  simp
theorem not_named_of {s : ByteArray} {k : Nat} (h : k < s.size) (hk : okc s[k] = false) : named (bs s) = false := by
  have : (bs s).all okc = false := by
    rw [List.all_eq_false]
    exact ⟨(bs s)[k]'(by simpa using h), List.getElem_mem _, by rw [bs_get s k h, hk]; simp⟩
  simp [named, this]
theorem named_round {k : Nat} {s : ByteArray} (h : k < s.size) (hall : ((bs s).take k).all okc = true) (hk : okc s[k] = true) : ((bs s).take (k + 1)).all okc = true := by
  rw [all_take_succ s k h, hall, hk]; rfl
theorem named_end {k : Nat} {s : ByteArray} (h : ¬ k < s.size) (hk : k ≤ s.size) (hall : ((bs s).take k).all okc = true) : (!s.toList.isEmpty && decide ((s.size : Int) ≤ 40)) = named (bs s) := by
  obtain rfl : k = s.size := by omega
  rw [List.take_of_length_le (by simp)] at hall
  have h1 : (!s.toList.isEmpty) = decide (0 < (bs s).length) := by
    rw [ByteArray.toList_eq]
    show (!(bs s).isEmpty) = _
    cases bs s <;> simp
  have h2 : decide ((s.size : Int) ≤ 40) = decide ((bs s).length ≤ 40) := by rw [length_bs]; simp; omega
  rw [named, hall, h1, h2]
  simp
theorem named_any (s : ByteArray) (w : World) (hs : s.size ≤ 9223372036854775807) :
    Calls Tryd.prog 39 #[.string s] w fun e w' => e = .returned (.bool (named (bs s))) ∧ w = w' := by
  go_enter Tryd.func39, Tryd.ntmps39
  go_wp2
  go_loop [3] (fun i => ∃ k : Nat, k ≤ s.size ∧ i = .int .i64 k ∧ Hid (((bs s).take k).all okc = true)) (fun i => s.size - (intOf i).toNat)
  case atStart => exact ⟨0, Nat.zero_le _, rfl, rfl⟩
  case round =>
    obtain ⟨k, hk, rfl, hall⟩ := hrel
    by_cases hlt : k < s.size
    · by_cases hok : okc s[k] = true
      · have hok' : (97 ≤ s[k].toNat ∧ s[k].toNat ≤ 122) ∨ (48 ≤ s[k].toNat ∧ s[k].toNat ≤ 57) ∨ s[k].toNat = 45 ∨ s[k].toNat = 95 := of_decide_eq_true hok
        have H := Lib.hid (named_round hlt hall.out hok)
        clear hok hall
        rcases hok' with ⟨h1, h2⟩ | ⟨h1, h2⟩ | h1 | h1
        · have g1 : (97 : Int) ≤ (s[k].toNat : Int) := by omega
          have g2 : (s[k].toNat : Int) ≤ 122 := by omega
          clear h1 h2
          go_wp2
          go_round
          case rel => exact ⟨k + 1, by omega, by go_num, H.out⟩
          case measure => simp [intOf]; omega
        · have g0 : (s[k].toNat : Int) < 97 := by omega
          have g1 : (48 : Int) ≤ (s[k].toNat : Int) := by omega
          have g2 : (s[k].toNat : Int) ≤ 57 := by omega
          clear h1 h2
          go_wp2
          go_round
          case rel => exact ⟨k + 1, by omega, by go_num, H.out⟩
          case measure => simp [intOf]; omega
        · have g0 : (s[k].toNat : Int) < 48 := by omega
          have g1 : ((s[k].toNat : Int) != 45) = false := by simp; omega
          clear h1
          go_wp2
          go_round
          case rel => exact ⟨k + 1, by omega, by go_num, H.out⟩
          case measure => simp [intOf]; omega
        · have g0 : (s[k].toNat : Int) < 97 := by omega
          have g3 : (57 : Int) < (s[k].toNat : Int) := by omega
          have g1 : ((s[k].toNat : Int) != 45) = true := by simp; omega
          have g2 : ((s[k].toNat : Int) != 95) = false := by simp; omega
          clear h1
          go_wp2
          go_round
          case rel => exact ⟨k + 1, by omega, by go_num, H.out⟩
          case measure => simp [intOf]; omega
      · have hok' : ¬ ((97 ≤ s[k].toNat ∧ s[k].toNat ≤ 122) ∨ (48 ≤ s[k].toNat ∧ s[k].toNat ≤ 57) ∨ s[k].toNat = 45 ∨ s[k].toNat = 95) := fun h => hok (decide_eq_true h)
        have H := Lib.hid (not_named_of hlt (by simpa using hok))
        clear hok hall
        have g1 : ((s[k].toNat : Int) != 45) = true := by simp; omega
        have g2 : ((s[k].toNat : Int) != 95) = true := by simp; omega
        rcases (by omega : s[k].toNat < 48 ∨ (57 < s[k].toNat ∧ s[k].toNat < 97) ∨ 122 < s[k].toNat) with h1 | ⟨h1, h2⟩ | h1
        · have g3 : (s[k].toNat : Int) < 48 := by omega
          clear hok' h1
          go_wp2
          go_ret
          exact ⟨ret_bool' H.out.symm, rfl⟩
        · have g3 : (57 : Int) < (s[k].toNat : Int) := by omega
          have g4 : (s[k].toNat : Int) < 97 := by omega
          clear hok' h1 h2
          go_wp2
          go_ret
          exact ⟨ret_bool' H.out.symm, rfl⟩
        · have g3 : (122 : Int) < (s[k].toNat : Int) := by omega
          clear hok' h1
          go_wp2
          go_ret
          exact ⟨ret_bool' H.out.symm, rfl⟩
    · have H := Lib.hid (named_end hlt hk hall.out)
      clear hall
      go_wp2
      all_goals
        go_ret
        refine ⟨ret_bool' (Eq.trans ?_ H.out), rfl⟩
        first | rfl | simp [*]
/-- ten digits of a number, the highest first -/
def digs : Nat → Nat → List UInt8
  | 0, _ => []
  | k + 1, n => digs k (n / 10) ++ [UInt8.ofNat (48 + n % 10)]
theorem length_digs (k n : Nat) : (digs k n).length = k := by
  induction k generalizing n with
  | zero => rfl
  | succ k ih => simp [digs, ih]
theorem digs_left (k : Nat) : ∀ n : Nat, digs (k + 1) n = UInt8.ofNat (48 + n / 10 ^ k % 10) :: digs k n := by
  induction k with
  | zero => intro n; simp [digs]
  | succ k ih =>
    intro n
    rw [digs, ih (n / 10)]
    rw [digs, List.cons_append, Nat.div_div_eq_div_mul, Nat.pow_succ, Nat.mul_comm 10]
theorem digs_zero (k : Nat) : digs k 0 = List.replicate k 48 := by
  induction k with
  | zero => rfl
  | succ k ih => rw [digs_left, ih]; simp [List.replicate_succ]
/-- where nothing is left of a number, noughts stand ahead of its digits -/
theorem digs_pad (k j n : Nat) (h : n / 10 ^ j = 0) : digs (j + k) n = List.replicate k 48 ++ digs j n := by
  induction k with
  | zero => simp
  | succ k ih =>
    rw [show j + (k + 1) = (j + k) + 1 from by omega, digs_left, ih, List.replicate_succ, List.cons_append]
    have : n / 10 ^ (j + k) = 0 := by rw [Nat.pow_add, ← Nat.div_div_eq_div_mul, h, Nat.zero_div]
    rw [this]
    rfl
/-- what stands behind the name when j digits are laid -/
def part (j n : Nat) : List UInt8 := List.replicate (10 - j) 48 ++ digs j n
theorem length_part (j n : Nat) (h : j ≤ 10) : (part j n).length = 10 := by simp [part, length_digs]; omega
theorem part_end (j n : Nat) (hj : j ≤ 10) (h : n / 10 ^ j = 0) : part j n = digs 10 n := by
  rw [part, ← digs_pad (10 - j) j n h, show j + (10 - j) = 10 from by omega]
theorem part_set (j n : Nat) (hj : j < 10) : (part j n).set (9 - j) (UInt8.ofNat (48 + n / 10 ^ j % 10)) = part (j + 1) n := by
  unfold part
  rw [digs_left, show 10 - j = (9 - j) + 1 from by omega, List.replicate_succ', List.append_assoc, List.set_append_right _ _ (by simp), show 10 - (j + 1) = 9 - j from by omega]
  simp
theorem lt_ten {n j : Nat} (hn : n ≤ 2147483647) (h : 0 < n / 10 ^ j) : j < 10 := by
  rcases Nat.lt_or_ge j 10 with h1 | h1
  · exact h1
  · have h2 : 10 ^ 10 ≤ 10 ^ j := Nat.pow_le_pow_right (by omega) h1
    have : n / 10 ^ j = 0 := Nat.div_eq_of_lt (by omega)
    omega
end Go.Proofs.YteolglmifimnaaaDoor

/- path.Good: each step between the slashes is named. -/
namespace Go.Proofs.YteolglmifimnaaaDoor
open Go.RowKit Go.Shelf
attribute [local go_sem] Oper.semAt_some
def goodP (s : ByteArray) : Bool := decide (s = ⟨#[47]⟩) || (decide (s.size ≤ 200) && Lib.hasPrefix s.data.toList [47] && (stepsB (s.extract 1 s.size)).all fun x => named (bs x))
theorem splitSeq_is (s sep : ByteArray) (w : World) :
    Calls Tryd.prog 57 #[.string s, .string sep] w fun e w' => e = .returned (.func (.func 83) #[] #[.pointer (some ⟨w.heap.size + 1, 0, none⟩), .pointer (some ⟨w.heap.size, 0, none⟩), .pointer (some ⟨w.heap.size + 2, 0, none⟩)]) ∧
      w' = ((w.alloc (.cells #[.string s] 9)).alloc (.cells #[.string sep] 9)).alloc (.cells #[.int .i64 0] 3) := by
  go_enter Tryd.func57, Tryd.ntmps57
  go_wp2
  go_ret
  exact ⟨rfl, rfl⟩
theorem stepsB_size (s : ByteArray) : ∀ x ∈ stepsB s, x.size ≤ s.size := by
  generalize hn : s.size = n
  induction n using Nat.strongRecOn generalizing s with
  | ind n ih =>
    intro x hx
    rcases Int.lt_or_le (Lib.indexByte s.data.toList 47) 0 with hi | hi
    · rw [stepsB_no hi] at hx
      simp at hx
      subst hx
      omega
    · obtain ⟨o, ho⟩ := Int.eq_ofNat_of_zero_le hi
      have hlt := index_lt ho
      rw [stepsB_yes ho] at hx
      rcases List.mem_cons.1 hx with rfl | h
      · rw [ByteArray.size_extract]; omega
      · have hsz : (s.extract (o + 1) s.size).size = s.size - (o + 1) := by rw [ByteArray.size_extract]; omega
        have := ih (s.size - (o + 1)) (by omega) _ hsz x h
        omega
set_option maxHeartbeats 1000000 in
theorem good_steps (s : ByteArray) (w : World) (hs : s.size ≤ 200) (hne : (s.toList == [47]) = false) (hp : Lib.hasPrefix s.data.toList [47] = true) :
    Calls Tryd.prog 37 #[.string s] w fun e w' => e = .returned (.bool ((stepsB (s.extract 1 s.size)).all fun x => named (bs x))) ∧ Below w.heap.size w w' := by
  have h1 : 1 ≤ s.size := by
    cases hd : s.data.toList with
    | nil => rw [hd] at hp; cases hp
    | cons x r =>
      have : s.data.toList.length = s.size := by simp
      rw [hd] at this
      simp at this
      omega
  have hgt : (decide ((200 : Int) < (s.size : Int))) = false := decide_eq_false (by omega)
  refine (callsIn_wide (n := 9)).1 ?_
  refine callsIn_of_wp_marks Tryd.func37 rfl trivial ?_ rfl
  simp only [Tryd.ntmps37, List.size_toArray, List.length_cons, List.length_nil, Nat.reduceAdd, Nat.reduceSub, Array.replicate_succ, Array.replicate_zero, List.push_toArray, List.append_toArray, List.nil_append, List.cons_append]
  gi_wp2_with (first | (refine ⟨trivial, ?_⟩; gi_at_call 56; refine (callsIn_wide.2 (Tryd.strings_HasPrefix _ _ _)).mono ?_; rintro e w' ⟨rfl, rfl⟩; rw [hp]) | (refine ⟨trivial, ?_⟩; gi_at_call 57; refine (callsIn_wide.2 (splitSeq_is _ _ _)).mono ?_; rintro e w' ⟨rfl, rfl⟩))
  generalize hT : s.extract 1 s.size = t at *
  have hts : t.size ≤ 200 := by rw [← hT, ByteArray.size_extract]; omega
  have HTT := Lib.hid hT
  clear hT hgt hne hp
  obtain ⟨W0, hW0⟩ : ∃ W0, ((((w.alloc (.cells #[.bool false] 4)).alloc (.cells #[.string t] 9)).alloc (.cells #[.string ⟨#[47]⟩] 9)).alloc (.cells #[.int .i64 0] 3)) = W0 := ⟨_, rfl⟩
  have hsz : W0.heap.size = w.heap.size + 1 + 1 + 1 + 1 := by subst hW0; simp
  have hB0 : Below w.heap.size w W0 := by subst hW0; exact (by repeat (first | exact Below.refl _ _ | assumption | refine Below.drew ?_ | refine Below.drewN' ?_ _ | refine below_grow0 _ _ ?_ | refine below_alloc0 _ ?_ | refine Below.alloc ?_ (by first | omega | (simp; done) | (simp; omega)) _ | refine Below.setCell ?_ (by first | omega | (simp; done) | (simp; omega)) _ | refine Below.grow _ _ _ ?_ (by first | omega | (simp; done) | (simp; omega))))
  have r0 : W0.cell? ⟨w.heap.size, 0, none⟩ = some (.bool false) := by subst hW0; go_simp
  have f0 : W0.frozen? ⟨w.heap.size, 0, none⟩ = false := by subst hW0; go_simp
  have s0 : W0.cell? ⟨w.heap.size + 1, 0, none⟩ = some (.string t) := by subst hW0; go_simp
  have g0 : W0.frozen? ⟨w.heap.size + 1, 0, none⟩ = false := by subst hW0; go_simp
  have s1 : W0.cell? ⟨w.heap.size + 1 + 1, 0, none⟩ = some (.string ⟨#[47]⟩) := by subst hW0; go_simp
  have s2 : W0.cell? ⟨w.heap.size + 1 + 1 + 1, 0, none⟩ = some (.int .i64 0) := by subst hW0; go_simp
  rw [hW0]
  clear hW0
  refine wpIn_range_cells (S := stepsB t) (b := w.heap.size + 1) rfl (by omega) rfl trivial (enters_of Tryd.func83 (by kernel_rfl) rfl) (by omega)
    (split_stops 8 (by omega) W0 (w.heap.size + 1) (w.heap.size + 1 + 1) (w.heap.size + 1 + 2) t s0 g0 s1 s2 (by omega) (by omega) (by omega)) (fun _ => rfl)
    (fun pre W => (W.cell? ⟨w.heap.size, 0, none⟩ = some (.bool false) ∧ W.frozen? ⟨w.heap.size, 0, none⟩ = false ∧ Hid (∀ x ∈ pre, named (bs x) = true)) ∧ Below w.heap.size w W)
    (fun c pre W => (W.cell? ⟨w.heap.size, 0, none⟩ = some (.bool false) ∧ W.frozen? ⟨w.heap.size, 0, none⟩ = false ∧ Hid (c = .ret ∧ ((stepsB t).all fun x => named (bs x)) = false)) ∧ Below w.heap.size w W)
    (OwnFrom.and (Own.from (fun s A B row hs hg hr => ⟨cell_kept hs.1 hg hr, (frozen_kept hs.1 hg hr).trans hs.2.1, hs.2.2⟩) _) (ownFrom_below (Nat.le_refl _) (by omega)))
    (fun c => OwnFrom.and (Own.from (fun s A B row hs hg hr => ⟨cell_kept hs.1 hg hr, (frozen_kept hs.1 hg hr).trans hs.2.1, hs.2.2⟩) _) (ownFrom_below (Nat.le_refl _) (by omega)))
    (fun s A v h => ⟨⟨(World.cell?_setCell_other _ _ _ _ (fun h => by injection h with h; omega)).trans h.1.1, (World.frozen?_setCell ..).trans h.1.2.1, h.1.2.2⟩, h.2.setCell (p := ⟨w.heap.size + 1, 0, none⟩) (Nat.le_succ _) _⟩)
    ⟨⟨r0, f0, Lib.hid (by simp)⟩, hB0⟩
    (fun x => { tmps := #[.string s, undef, .pointer (some ⟨w.heap.size, 0, none⟩), .string x, .string s, .bool false, .string s, .int .i64 s.size, .bool false, .bool false, .string s, .bool true, .bool false, .bool false, .string s, .string t, .func (.func 83) #[] #[.pointer (some ⟨w.heap.size + 1 + 1, 0, none⟩), .pointer (some ⟨w.heap.size + 1, 0, none⟩), .pointer (some ⟨w.heap.size + 1 + 2, 0, none⟩)], .string x, undef, undef, undef], defers := [] }) ?assign ?body ?done ?stop
  case assign =>
    intro l x W K hK
    gi_wp2
    exact hK
  case body =>
    rintro l pre x W ⟨⟨hc, hf, hall⟩, hB⟩ hpre
    have hmem : x ∈ stepsB t := hpre.subset (by simp)
    have hx := stepsB_size t x hmem
    cases hn : named (bs x) with
    | true =>
      have HA := Lib.hid (show ∀ y ∈ pre ++ [x], named (bs y) = true from fun y hy => by
        rcases List.mem_append.1 hy with h | h
        · exact hall.out y h
        · simp at h; subst h; exact hn)
      clear hall hmem hpre
      gi_wp2_with (refine ⟨trivial, ?_⟩; gi_at_call 39; refine (CallsIn.inRound l (callsIn_wide.2 (named_any x _ (by omega)))).mono ?_; rintro e w' ⟨rfl, rfl⟩; rw [hn])
      exact ⟨KeepsOthers.refl _, Below.refl _ _, ⟨hc, hf, HA⟩, hB⟩
    | false =>
      have HA := Lib.hid (show ((stepsB t).all fun x => named (bs x)) = false by rw [List.all_eq_false]; exact ⟨x, hmem, by simp [hn]⟩)
      clear hall hmem hpre
      gi_wp2_with (refine ⟨trivial, ?_⟩; gi_at_call 39; refine (CallsIn.inRound l (callsIn_wide.2 (named_any x _ (by omega)))).mono ?_; rintro e w' ⟨rfl, rfl⟩; rw [hn])
      exact ⟨KeepsOthers.setCell _ _ _, ⟨World.cell?_setCell_same' _ _ _ (by rw [hc]; rfl), by rw [World.frozen?_setCell]; exact hf, Lib.hid ⟨rfl, HA.out⟩⟩, hB.setCell (p := ⟨w.heap.size, 0, none⟩) (Nat.le_refl _) _⟩
  case done =>
    rintro D W hD ⟨⟨hc, hf, hall⟩, hB⟩ hK
    have hT : ((stepsB t).all fun x => named (bs x)) = true := List.all_eq_true.2 hall.out
    have HA := Lib.hid hT
    clear hall hT
    gi_wp2
    have hK' := (KeepsOthers.setCell W ⟨w.heap.size, 0, none⟩ (.bool true)).same D _ hK rfl
    refine ⟨by simp, .inl ⟨_, _, rfl, run_takeDeferred hK', ?_⟩⟩
    have hc5 := cell_kept (World.cell?_setCell_same' W ⟨w.heap.size, 0, none⟩ (.bool true) (by rw [hc]; rfl)) (grownBy_putObj' _ D (.deferred none)) (fun r e => by cases e; exact ⟨_, hK', rfl⟩)
    refine ⟨.bool true, ?_, by rw [HTT.out, HA.out], (hB.setCell (p := ⟨w.heap.size, 0, none⟩) (Nat.le_refl _) _).trans (belowK_b (w := w) (Nat.le_refl _) _ D _ _ (by omega) hK' rfl rfl)⟩
    simp [results, Tryd.f37, go_sem, hc5]
  case stop =>
    rintro D c pre W hD ⟨⟨hc, hf, hbad⟩, hB⟩ hK
    obtain ⟨rfl, hb⟩ := hbad.out
    have HA := Lib.hid hb
    clear hbad hb
    gi_wp2
    refine ⟨by simp, .inl ⟨_, _, rfl, run_takeDeferred hK, ?_⟩⟩
    have hc5 := cell_kept hc (grownBy_putObj' _ D (.deferred none)) (fun r e => by cases e; exact ⟨_, hK, rfl⟩)
    refine ⟨.bool false, ?_, by rw [HTT.out, HA.out], hB.trans (belowK_b (w := w) (Nat.le_refl _) W D _ _ (by omega) hK rfl rfl)⟩
    simp [results, Tryd.f37, go_sem, hc5]
theorem bytes_eqB {a b : ByteArray} (e : a.toList = b.toList) : a = b := by
  rw [ByteArray.toList_eq, ByteArray.toList_eq] at e
  exact ByteArray.ext (Array.toList_inj.mp e)
set_option maxHeartbeats 1000000 in
/-- path.Good, at every text -/
theorem good_any (s : ByteArray) (w : World) (hs : s.size ≤ 9223372036854775807) :
    Calls Tryd.prog 37 #[.string s] w fun e w' => e = .returned (.bool (goodP s)) ∧ Below w.heap.size w w' := by
  by_cases hr : s = ⟨#[47]⟩
  · subst hr
    have hg : goodP ⟨#[47]⟩ = true := by unfold goodP; rw [decide_eq_true rfl]; rfl
    rw [hg]
    go_enter Tryd.func37, Tryd.ntmps37
    go_wp2
    refine bodyPost_ret (v := .bool true) (by simp [results, Tryd.f37, go_sem]) rfl ⟨rfl, (by repeat (first | exact Below.refl _ _ | assumption | refine Below.drew ?_ | refine Below.drewN' ?_ _ | refine below_grow0 _ _ ?_ | refine below_alloc0 _ ?_ | refine Below.alloc ?_ (by first | omega | (simp; done) | (simp; omega)) _ | refine Below.setCell ?_ (by first | omega | (simp; done) | (simp; omega)) _ | refine Below.grow _ _ _ ?_ (by first | omega | (simp; done) | (simp; omega))))⟩
  · have hne : (s.toList == [47]) = false := beq_eq_false_iff_ne.2 (fun e => hr (bytes_eqB (by rw [e, ByteArray.toList_eq])))
    by_cases h200 : s.size ≤ 200
    · cases hp : Lib.hasPrefix s.data.toList [47] with
      | true =>
        have hg : goodP s = ((stepsB (s.extract 1 s.size)).all fun x => named (bs x)) := by unfold goodP; rw [decide_eq_false hr, decide_eq_true h200, hp]; rfl
        rw [hg]
        exact good_steps s w h200 hne hp
      | false =>
        have hg : goodP s = false := by unfold goodP; rw [decide_eq_false hr, hp]; simp
        have hgt : (decide ((200 : Int) < (s.size : Int))) = false := decide_eq_false (by omega)
        rw [hg]
        clear hg
        go_enter Tryd.func37, Tryd.ntmps37
        go_wp2_with (go_at_call 56; refine (Tryd.strings_HasPrefix _ _ _).mono ?_; rintro e w' ⟨rfl, rfl⟩; rw [hp])
        refine bodyPost_ret (v := .bool false) (by simp [results, Tryd.f37, go_sem]) rfl ⟨rfl, (by repeat (first | exact Below.refl _ _ | assumption | refine Below.drew ?_ | refine Below.drewN' ?_ _ | refine below_grow0 _ _ ?_ | refine below_alloc0 _ ?_ | refine Below.alloc ?_ (by first | omega | (simp; done) | (simp; omega)) _ | refine Below.setCell ?_ (by first | omega | (simp; done) | (simp; omega)) _ | refine Below.grow _ _ _ ?_ (by first | omega | (simp; done) | (simp; omega))))⟩
    · have hg : goodP s = false := by unfold goodP; rw [decide_eq_false hr, decide_eq_false h200]; simp
      have hgt : (decide ((200 : Int) < (s.size : Int))) = true := decide_eq_true (by omega)
      rw [hg]
      clear hg
      go_enter Tryd.func37, Tryd.ntmps37
      go_wp2_with fail
      refine bodyPost_ret (v := .bool false) (by simp [results, Tryd.f37, go_sem]) rfl ⟨rfl, (by repeat (first | exact Below.refl _ _ | assumption | refine Below.drew ?_ | refine Below.drewN' ?_ _ | refine below_grow0 _ _ ?_ | refine below_alloc0 _ ?_ | refine Below.alloc ?_ (by first | omega | (simp; done) | (simp; omega)) _ | refine Below.setCell ?_ (by first | omega | (simp; done) | (simp; omega)) _ | refine Below.grow _ _ _ ?_ (by first | omega | (simp; done) | (simp; omega))))⟩
end Go.Proofs.YteolglmifimnaaaDoor

/- path.Under, Split, Join, Depth. -/
namespace Go.Proofs.YteolglmifimnaaaDoor
open Go.RowKit Go.Shelf
def slash : ByteArray := ⟨#[47]⟩
def underB (s t : ByteArray) : Bool := goodP s && goodP t && decide (s ≠ t) && (decide (t = slash) || Lib.hasPrefix s.data.toList (t ++ slash).data.toList)
theorem goodP_size {s : ByteArray} (h : goodP s = true) : 1 ≤ s.size ∧ s.size ≤ 200 := by
  unfold goodP at h
  by_cases hs : s = ⟨#[47]⟩
  · subst hs; decide
  · rw [decide_eq_false hs, Bool.false_or] at h
    simp only [Bool.and_eq_true, decide_eq_true_iff] at h
    obtain ⟨⟨h1, hp⟩, _⟩ := h
    refine ⟨?_, h1⟩
    cases hd : s.data.toList with
    | nil => rw [hd] at hp; cases hp
    | cons x r =>
      have : s.data.toList.length = s.size := by simp
      rw [hd] at this
      simp at this
      omega
theorem ne_bytes {a b : ByteArray} (h : a ≠ b) : (a.toList == b.toList) = false := beq_eq_false_iff_ne.2 (fun e => h (bytes_eqB e))
theorem ne_slash {a : ByteArray} (h : a ≠ slash) : (a.toList == [47]) = false := beq_eq_false_iff_ne.2 (fun e => h (bytes_eqB (by rw [e]; unfold slash; rw [ByteArray.toList_eq])))
/-- where the last slash stands -/
def lastP (s : ByteArray) : Nat := (Lib.lastIndexByte s 47).toNat
theorem lastP_is {s : ByteArray} (hp : Lib.hasPrefix s.data.toList [47] = true) : Lib.lastIndexByte s 47 = (lastP s : Int) ∧ lastP s < s.size := by
  rcases Lib.lastIndexByte_spec s 47 with ⟨e, hn⟩ | ⟨i, hi, e, _⟩
  · exfalso
    cases hd : s.data.toList with
    | nil => rw [hd] at hp; cases hp
    | cons x r =>
      rw [hd] at hp
      have hx : (47 : UInt8) = x := by simpa [Lib.hasPrefix, List.isPrefixOf] using hp
      have hl : s.data.toList.length = s.size := by simp
      have h0 : 0 < s.size := by rw [hd] at hl; simp at hl; omega
      refine hn 0 h0 ?_
      have : s.data[0]! = x := by
        rw [← Array.getElem!_toList, hd]; rfl
      rw [this, ← hx]
      rfl
  · unfold lastP
    rw [e]
    exact ⟨by simp, by simpa using hi⟩
theorem goodP_pre {s : ByteArray} (h : goodP s = true) (hs : s ≠ slash) : Lib.hasPrefix s.data.toList [47] = true ∧ ((stepsB (s.extract 1 s.size)).all fun x => named (bs x)) = true := by
  unfold goodP at h
  rw [decide_eq_false (show ¬ s = ⟨#[47]⟩ from hs), Bool.false_or] at h
  simp only [Bool.and_eq_true] at h
  exact ⟨h.1.2, h.2⟩
def splitR (s : ByteArray) : ByteArray × ByteArray × Int := if goodP s then (if s = slash then (⟨#[]⟩, ⟨#[]⟩, 7) else if lastP s = 0 then (slash, s.extract 1 s.size, 0) else (s.extract 0 (lastP s), s.extract (lastP s + 1) s.size, 0)) else (⟨#[]⟩, ⟨#[]⟩, 2)
set_option maxHeartbeats 1000000 in
theorem split_any (s : ByteArray) (w : World) (hs : s.size ≤ 9223372036854775807) :
    Calls Tryd.prog 25 #[.string s] w fun e w' => e = .returned (.tuple #[.string (splitR s).1, .string (splitR s).2.1, .int .i64 (splitR s).2.2]) ∧ Below w.heap.size w w' := by
  have HS := Lib.hid (fun (W : World) => good_any s W hs)
  unfold splitR
  cases hgs : goodP s with
  | false =>
    rw [hgs] at HS
    simp only [Bool.false_eq_true, if_false]
    clear hgs
    go_enter Tryd.func25, Tryd.ntmps25
    go_wp2_with (go_at_call 37; refine (HS.out _).mono ?_; rintro e w1 ⟨rfl, hb⟩; obtain ⟨ext1, d1, rfl⟩ := Below.grown_eq _ hb; clear hb HS)
    refine bodyPost_ret (v := .tuple #[.string ⟨#[]⟩, .string ⟨#[]⟩, .int .i64 2]) (by simp [results, Tryd.results25, go_sem]) rfl ⟨rfl, (by repeat (first | exact Below.refl _ _ | assumption | refine Below.drew ?_ | refine Below.drewN' ?_ _ | refine below_grow0 _ _ ?_ | refine below_alloc0 _ ?_ | refine Below.alloc ?_ (by first | omega | (simp; done) | (simp; omega)) _ | refine Below.setCell ?_ (by first | omega | (simp; done) | (simp; omega)) _ | refine Below.grow _ _ _ ?_ (by first | omega | (simp; done) | (simp; omega))))⟩
  | true =>
    rw [hgs] at HS
    have zs := goodP_size hgs
    simp only [if_true]
    by_cases hsl : s = slash
    · subst hsl
      simp only [if_true]
      unfold slash at *
      clear hgs
      go_enter Tryd.func25, Tryd.ntmps25
      go_wp2_with (go_at_call 37; refine (HS.out _).mono ?_; rintro e w1 ⟨rfl, hb⟩; obtain ⟨ext1, d1, rfl⟩ := Below.grown_eq _ hb; clear hb HS)
      refine bodyPost_ret (v := .tuple #[.string ⟨#[]⟩, .string ⟨#[]⟩, .int .i64 7]) (by simp [results, Tryd.results25, go_sem]) rfl ⟨rfl, (by repeat (first | exact Below.refl _ _ | assumption | refine Below.drew ?_ | refine Below.drewN' ?_ _ | refine below_grow0 _ _ ?_ | refine below_alloc0 _ ?_ | refine Below.alloc ?_ (by first | omega | (simp; done) | (simp; omega)) _ | refine Below.setCell ?_ (by first | omega | (simp; done) | (simp; omega)) _ | refine Below.grow _ _ _ ?_ (by first | omega | (simp; done) | (simp; omega))))⟩
    · simp only [if_neg hsl]
      have hne := ne_slash hsl
      obtain ⟨hL, hlt⟩ := lastP_is (goodP_pre hgs hsl).1
      have HL := Lib.hid (fun (W : World) => by
        have h := Tryd.strings_LastIndexByte s 47 (by omega) W
        rw [hL] at h
        exact h)
      clear hL hgs hsl
      generalize lastP s = k at *
      by_cases hk : k = 0
      · subst hk
        simp only [if_true]
        go_enter Tryd.func25, Tryd.ntmps25
        go_wp2_with (first | (go_at_call 37; refine (HS.out _).mono ?_; rintro e w1 ⟨rfl, hb⟩; obtain ⟨ext1, d1, rfl⟩ := Below.grown_eq _ hb; clear hb HS) | (go_at_call 52; refine (HL.out _).mono ?_; rintro e w1 ⟨rfl, rfl⟩; skip))
        go_region
        go_wp2_with fail
        refine bodyPost_ret (v := .tuple #[.string slash, .string (s.extract 1 s.size), .int .i64 0]) (by simp [results, Tryd.results25, go_sem, slash]) rfl ⟨rfl, (by repeat (first | exact Below.refl _ _ | assumption | refine Below.drew ?_ | refine Below.drewN' ?_ _ | refine below_grow0 _ _ ?_ | refine below_alloc0 _ ?_ | refine Below.alloc ?_ (by first | omega | (simp; done) | (simp; omega)) _ | refine Below.setCell ?_ (by first | omega | (simp; done) | (simp; omega)) _ | refine Below.grow _ _ _ ?_ (by first | omega | (simp; done) | (simp; omega))))⟩
      · simp only [if_neg hk]
        have hki : (((k : Nat) : Int) == 0) = false := beq_eq_false_iff_ne.2 (by omega)
        go_enter Tryd.func25, Tryd.ntmps25
        go_wp2_with (first | (go_at_call 37; refine (HS.out _).mono ?_; rintro e w1 ⟨rfl, hb⟩; obtain ⟨ext1, d1, rfl⟩ := Below.grown_eq _ hb; clear hb HS) | (go_at_call 52; refine (HL.out _).mono ?_; rintro e w1 ⟨rfl, rfl⟩; skip))
        go_region
        go_wp2_with fail
        refine bodyPost_ret (v := .tuple #[.string (s.extract 0 k), .string (s.extract (k + 1) s.size), .int .i64 0]) (by simp [results, Tryd.results25, go_sem]) rfl ⟨rfl, (by repeat (first | exact Below.refl _ _ | assumption | refine Below.drew ?_ | refine Below.drewN' ?_ _ | refine below_grow0 _ _ ?_ | refine below_alloc0 _ ?_ | refine Below.alloc ?_ (by first | omega | (simp; done) | (simp; omega)) _ | refine Below.setCell ?_ (by first | omega | (simp; done) | (simp; omega)) _ | refine Below.grow _ _ _ ?_ (by first | omega | (simp; done) | (simp; omega))))⟩
def joinT (d n : ByteArray) : ByteArray := if d = slash then slash ++ n else d ++ slash ++ n
def joinR (d n : ByteArray) : ByteArray × Int := if goodP d && named (bs n) then (if 200 < (joinT d n).size then (⟨#[]⟩, 1) else (joinT d n, 0)) else (⟨#[]⟩, 2)
set_option maxHeartbeats 1000000 in
theorem join_any (d n : ByteArray) (w : World) (hd : d.size ≤ 9223372036854775807) (hn : n.size ≤ 9223372036854775807) :
    Calls Tryd.prog 18 #[.string d, .string n] w fun e w' => e = .returned (.tuple #[.string (joinR d n).1, .int .i64 (joinR d n).2]) ∧ Below w.heap.size w w' := by
  have HS := Lib.hid (fun (W : World) => good_any d W hd)
  have HN := Lib.hid (fun (W : World) => named_any n W hn)
  unfold joinR
  cases hgs : goodP d with
  | false =>
    rw [hgs] at HS
    simp only [Bool.false_and, Bool.false_eq_true, if_false]
    clear hgs
    go_enter Tryd.func18, Tryd.ntmps18
    go_wp2_with (go_at_call 37; refine (HS.out _).mono ?_; rintro e w1 ⟨rfl, hb⟩; obtain ⟨ext1, d1, rfl⟩ := Below.grown_eq _ hb; clear hb HS)
    go_ret2
    exact ⟨rfl, (by repeat (first | exact Below.refl _ _ | assumption | refine Below.drew ?_ | refine Below.drewN' ?_ _ | refine below_grow0 _ _ ?_ | refine below_alloc0 _ ?_ | refine Below.alloc ?_ (by first | omega | (simp; done) | (simp; omega)) _ | refine Below.setCell ?_ (by first | omega | (simp; done) | (simp; omega)) _ | refine Below.grow _ _ _ ?_ (by first | omega | (simp; done) | (simp; omega))))⟩
  | true =>
    rw [hgs] at HS
    have zs := goodP_size hgs
    clear hgs
    cases hnm : named (bs n) with
    | false =>
      rw [hnm] at HN
      simp only [Bool.and_false, Bool.false_eq_true, if_false]
      clear hnm
      go_enter Tryd.func18, Tryd.ntmps18
      go_wp2_with (first | (go_at_call 37; refine (HS.out _).mono ?_; rintro e w1 ⟨rfl, hb⟩; obtain ⟨ext1, d1, rfl⟩ := Below.grown_eq _ hb; clear hb HS) | (go_at_call 39; refine (HN.out _).mono ?_; rintro e w1 ⟨rfl, rfl⟩; skip))
      go_ret2
      exact ⟨rfl, (by repeat (first | exact Below.refl _ _ | assumption | refine Below.drew ?_ | refine Below.drewN' ?_ _ | refine below_grow0 _ _ ?_ | refine below_alloc0 _ ?_ | refine Below.alloc ?_ (by first | omega | (simp; done) | (simp; omega)) _ | refine Below.setCell ?_ (by first | omega | (simp; done) | (simp; omega)) _ | refine Below.grow _ _ _ ?_ (by first | omega | (simp; done) | (simp; omega))))⟩
    | true =>
      rw [hnm] at HN
      have zn : n.size ≤ 40 := by
        unfold named at hnm
        simp only [Bool.and_eq_true, decide_eq_true_iff, length_bs] at hnm
        exact hnm.2
      clear hnm
      simp only [Bool.and_self, if_true]
      unfold joinT
      by_cases hsl : d = slash
      · subst hsl
        simp only [if_true]
        have hsz : (slash ++ n).size = 1 + n.size := by rw [ByteArray.size_append]; rfl
        have hgt : ¬ 200 < (slash ++ n).size := by omega
        simp only [if_neg hgt]
        have hgi : (decide ((200 : Int) < 1 + (n.size : Int))) = false := decide_eq_false (by omega)
        clear hgt hsz
        unfold slash at *
        go_enter Tryd.func18, Tryd.ntmps18
        go_wp2_with (first | (go_at_call 37; refine (HS.out _).mono ?_; rintro e w1 ⟨rfl, hb⟩; obtain ⟨ext1, d1, rfl⟩ := Below.grown_eq _ hb; clear hb HS) | (go_at_call 39; refine (HN.out _).mono ?_; rintro e w1 ⟨rfl, rfl⟩; skip))
        go_ret2
        exact ⟨rfl, (by repeat (first | exact Below.refl _ _ | assumption | refine Below.drew ?_ | refine Below.drewN' ?_ _ | refine below_grow0 _ _ ?_ | refine below_alloc0 _ ?_ | refine Below.alloc ?_ (by first | omega | (simp; done) | (simp; omega)) _ | refine Below.setCell ?_ (by first | omega | (simp; done) | (simp; omega)) _ | refine Below.grow _ _ _ ?_ (by first | omega | (simp; done) | (simp; omega))))⟩
      · have hne := ne_slash hsl
        simp only [if_neg hsl]
        have hsz : (d ++ slash ++ n).size = d.size + 1 + n.size := by rw [ByteArray.size_append, ByteArray.size_append]; rfl
        by_cases hgt : 200 < (d ++ slash ++ n).size
        · simp only [if_pos hgt]
          have hgi : (decide ((200 : Int) < (d.size : Int) + 1 + (n.size : Int))) = true := decide_eq_true (by omega)
          clear hgt hsz
          unfold slash at *
          go_enter Tryd.func18, Tryd.ntmps18
          go_wp2_with (first | (go_at_call 37; refine (HS.out _).mono ?_; rintro e w1 ⟨rfl, hb⟩; obtain ⟨ext1, d1, rfl⟩ := Below.grown_eq _ hb; clear hb HS) | (go_at_call 39; refine (HN.out _).mono ?_; rintro e w1 ⟨rfl, rfl⟩; skip))
          go_ret2
          exact ⟨rfl, (by repeat (first | exact Below.refl _ _ | assumption | refine Below.drew ?_ | refine Below.drewN' ?_ _ | refine below_grow0 _ _ ?_ | refine below_alloc0 _ ?_ | refine Below.alloc ?_ (by first | omega | (simp; done) | (simp; omega)) _ | refine Below.setCell ?_ (by first | omega | (simp; done) | (simp; omega)) _ | refine Below.grow _ _ _ ?_ (by first | omega | (simp; done) | (simp; omega))))⟩
        · simp only [if_neg hgt]
          have hgi : (decide ((200 : Int) < (d.size : Int) + 1 + (n.size : Int))) = false := decide_eq_false (by omega)
          clear hgt hsz
          unfold slash at *
          go_enter Tryd.func18, Tryd.ntmps18
          go_wp2_with (first | (go_at_call 37; refine (HS.out _).mono ?_; rintro e w1 ⟨rfl, hb⟩; obtain ⟨ext1, d1, rfl⟩ := Below.grown_eq _ hb; clear hb HS) | (go_at_call 39; refine (HN.out _).mono ?_; rintro e w1 ⟨rfl, rfl⟩; skip))
          go_ret2
          exact ⟨rfl, (by repeat (first | exact Below.refl _ _ | assumption | refine Below.drew ?_ | refine Below.drewN' ?_ _ | refine below_grow0 _ _ ?_ | refine below_alloc0 _ ?_ | refine Below.alloc ?_ (by first | omega | (simp; done) | (simp; omega)) _ | refine Below.setCell ?_ (by first | omega | (simp; done) | (simp; omega)) _ | refine Below.grow _ _ _ ?_ (by first | omega | (simp; done) | (simp; omega))))⟩
def depthR (s : ByteArray) : Int × Int := if goodP s then (if s = slash then (0, 0) else ((Lib.countByte s.data.toList 47 : Nat), 0)) else (0, 2)
end Go.Proofs.YteolglmifimnaaaDoor

/- joins; plain laws of Under. -/
namespace Go.Proofs.YteolglmifimnaaaDoor
open Go.RowKit
theorem under_self (a : ByteArray) : underB a a = false := by unfold underB; simp
theorem good_nil : goodP ⟨#[]⟩ = false := by
  cases h : goodP ⟨#[]⟩ with
  | false => rfl
  | true => have := (goodP_size h).1; cases this
theorem under_parts {s t : ByteArray} (h : underB s t = true) : goodP s = true ∧ goodP t = true ∧ s ≠ t ∧ (t = slash ∨ ∃ r, s.data.toList = t.data.toList ++ 47 :: r) := by
  unfold underB at h
  simp only [Bool.and_eq_true, Bool.or_eq_true, decide_eq_true_iff] at h
  obtain ⟨⟨⟨h1, h2⟩, h3⟩, h4⟩ := h
  refine ⟨h1, h2, h3, h4.imp id fun h => ?_⟩
  have := List.isPrefixOf_iff_prefix.1 h
  obtain ⟨r, hr⟩ := this
  exact ⟨r, by rw [← hr, ByteArray.data_append]; simp [slash]⟩
theorem good_len {s : ByteArray} (h : goodP s = true) : 1 ≤ s.data.toList.length := by
  have := (goodP_size h).1
  have h2 : s.data.toList.length = s.size := by simp
  omega
theorem slash_under {t : ByteArray} (h : underB slash t = true) : False := by
  obtain ⟨h1, h2, h3, h4⟩ := under_parts h
  rcases h4 with h | ⟨r, h⟩
  · exact h3 h.symm
  · have := congrArg List.length h
    have h5 := good_len h2
    simp [slash] at this
    simp at h5
    omega
theorem under_both {a b : ByteArray} (h : underB a b = true) (k : underB b a = true) : False := by
  obtain ⟨_, _, _, h4⟩ := under_parts h
  obtain ⟨_, _, _, k4⟩ := under_parts k
  rcases h4 with rfl | ⟨r, h5⟩
  · exact slash_under k
  · rcases k4 with rfl | ⟨q, k5⟩
    · exact slash_under h
    · have := congrArg List.length h5
      have := congrArg List.length k5
      simp at *
      omega
theorem under_trans {a b c : ByteArray} (h : underB a b = true) (k : underB b c = true) : underB a c = true := by
  obtain ⟨h1, h2, h3, h4⟩ := under_parts h
  obtain ⟨k1, k2, k3, k4⟩ := under_parts k
  have hac : a ≠ c := by
    rintro rfl
    exact under_both h k
  have hor : (decide (c = slash) || Lib.hasPrefix a.data.toList (c ++ slash).data.toList) = true := by
    rcases k4 with rfl | ⟨q, k4⟩
    · simp
    · rcases h4 with rfl | ⟨r, h4⟩
      · exact absurd k (fun k => slash_under k)
      · rw [Bool.or_eq_true]
        refine .inr (List.isPrefixOf_iff_prefix.2 ⟨q ++ 47 :: r, ?_⟩)
        rw [h4, k4, ByteArray.data_append]
        simp [slash]
  unfold underB
  rw [h1, k2, decide_eq_true hac, hor]
  rfl
end Go.Proofs.YteolglmifimnaaaDoor

/- Paths as lists of bytes: plain laws of steps, joined and taken apart. -/
namespace Go.Proofs.YteolglmifimnaaaDoor
open Go.RowKit
def stepsL : List UInt8 → List (List UInt8)
  | [] => [[]]
  | c :: r => if c = 47 then [] :: stepsL r else (c :: (stepsL r).headD []) :: (stepsL r).tail
theorem stepsL_cons (c : UInt8) (r : List UInt8) : stepsL (c :: r) = if c = 47 then [] :: stepsL r else (c :: (stepsL r).headD []) :: (stepsL r).tail := rfl
theorem stepsL_ne : ∀ l, ∃ h t, stepsL l = h :: t
  | [] => ⟨[], [], rfl⟩
  | c :: r => by
    unfold stepsL
    split
    · exact ⟨_, _, rfl⟩
    · exact ⟨_, _, rfl⟩
theorem stepsL_app : ∀ (x y : List UInt8), stepsL (x ++ 47 :: y) = stepsL x ++ stepsL y
  | [], y => by simp [stepsL]
  | c :: r, y => by
    have ih := stepsL_app r y
    obtain ⟨h, t, e⟩ := stepsL_ne r
    rw [List.cons_append, stepsL_cons, stepsL_cons, ih, e]
    split <;> simp
theorem stepsL_none : ∀ (l : List UInt8), (47 : UInt8) ∉ l → stepsL l = [l]
  | [], _ => rfl
  | c :: r, h => by
    have ih := stepsL_none r (fun k => h (List.mem_cons_of_mem _ k))
    have hc : c ≠ 47 := fun e => h (by rw [e]; exact List.mem_cons_self)
    unfold stepsL
    rw [if_neg hc, ih]
    rfl
theorem bs_extract (s : ByteArray) (a b : Nat) : bs (s.extract a b) = ((bs s).take b).drop a := by
  unfold bs
  rw [ByteArray.data_extract, Array.toList_extract, List.extract_eq_take_drop, List.drop_take]
theorem bs_append (a b : ByteArray) : bs (a ++ b) = bs a ++ bs b := by unfold bs; rw [ByteArray.data_append]; simp
theorem bs_inj {a b : ByteArray} (h : bs a = bs b) : a = b := ByteArray.ext (Array.toList_inj.mp h)
theorem cut_at {l : List UInt8} {o : Nat} (h : l[o]? = some 47) : l = l.take o ++ 47 :: l.drop (o + 1) := by
  obtain ⟨h1, h2⟩ := List.getElem?_eq_some_iff.1 h
  rw [← h2, List.getElem_cons_drop, List.take_append_drop]
theorem stepsB_L (s : ByteArray) : (stepsB s).map bs = stepsL (bs s) := by
  generalize hn : s.size = n
  induction n using Nat.strongRecOn generalizing s with
  | ind n ih =>
    rcases Int.lt_or_le (Lib.indexByte s.data.toList 47) 0 with hi | hi
    · have hge := Lib.indexByte_ge s.data.toList 47
      have hno := Lib.indexByte_none (show Lib.indexByte s.data.toList 47 = -1 by omega)
      rw [stepsB_no hi, stepsL_none]
      · rfl
      · intro hm
        obtain ⟨k, hk⟩ := List.mem_iff_getElem?.1 hm
        exact hno k hk
    · obtain ⟨o, ho⟩ := Int.eq_ofNat_of_zero_le hi
      have hlt := index_lt ho
      have hso := Lib.indexByte_some ho
      have hsz : (s.extract (o + 1) s.size).size = s.size - (o + 1) := by rw [ByteArray.size_extract]; omega
      have h2 := ih (s.size - (o + 1)) (by omega) _ hsz
      have hl : (bs s).length = s.size := length_bs s
      have hno : (47 : UInt8) ∉ (bs s).take o := by
        intro hm
        obtain ⟨k, hk⟩ := List.mem_iff_getElem?.1 hm
        rw [List.getElem?_take] at hk
        split at hk
        · rename_i hko; exact hso.2 k hko hk
        · cases hk
      have hR : stepsL (bs s) = (bs s).take o :: stepsL ((bs s).drop (o + 1)) := by
        conv => lhs; rw [cut_at (show (bs s)[o]? = some 47 from hso.1)]
        rw [stepsL_app, stepsL_none _ hno]
        rfl
      rw [stepsB_yes ho, List.map_cons, h2, bs_extract, bs_extract, List.take_of_length_le (show (bs s).length ≤ s.size by omega), hR]
      rfl
def goodL (l : List UInt8) : Bool := decide (l = [47]) || (decide (l.length ≤ 200) && match l with
  | c :: r => c == 47 && (stepsL r).all named
  | [] => false)
theorem goodP_L (s : ByteArray) : goodP s = goodL (bs s) := by
  unfold goodP goodL
  have h1 : decide (s = ⟨#[47]⟩) = decide (bs s = [47]) := by
    by_cases h : s = ⟨#[47]⟩
    · subst h; rfl
    · rw [decide_eq_false h, decide_eq_false (fun k => h (bs_inj (by rw [k]; rfl)))]
  have h2 : decide (s.size ≤ 200) = decide ((bs s).length ≤ 200) := by rw [length_bs]
  rw [h1, h2, Bool.and_assoc]
  congr 2
  have h3 : ((stepsB (s.extract 1 s.size)).all fun x => named (bs x)) = (stepsL ((bs s).drop 1)).all named := by
    have := stepsB_L (s.extract 1 s.size)
    rw [bs_extract, List.take_of_length_le (by rw [length_bs]; exact Nat.le_refl _)] at this
    rw [← this, List.all_map]
    rfl
  rw [h3]
  show (Lib.hasPrefix (bs s) [47] && _) = _
  cases bs s with
  | nil => rfl
  | cons c r =>
    have hc : ((47 : UInt8) == c) = (c == 47) := by
      by_cases h : c = 47
      · subst h; rfl
      · rw [beq_eq_false_iff_ne.2 h, beq_eq_false_iff_ne.2 (Ne.symm h)]
    simp [Lib.hasPrefix, List.isPrefixOf, hc]
theorem named_no {l : List UInt8} (h : named l = true) : (47 : UInt8) ∉ l ∧ 1 ≤ l.length ∧ l.length ≤ 40 := by
  unfold named at h
  simp only [Bool.and_eq_true, decide_eq_true_iff] at h
  refine ⟨fun hm => ?_, h.1.2, h.2⟩
  have := List.all_eq_true.1 h.1.1 _ hm
  revert this
  decide
theorem goodL_root (n : List UInt8) (hn : (47 : UInt8) ∉ n) (hl : (47 :: n).length ≤ 200) : goodL (47 :: n) = (decide (n = []) || named n) := by
  show (decide (47 :: n = [47]) || (decide ((47 :: n).length ≤ 200) && ((47 : UInt8) == 47 && (stepsL n).all named))) = (decide (n = []) || named n)
  rw [stepsL_none n hn, decide_eq_true hl]
  simp
theorem goodL_deep (c : UInt8) (r n : List UInt8) (hd : c :: r ≠ [47]) (hn : (47 : UInt8) ∉ n) (hl : (c :: r ++ 47 :: n).length ≤ 200) : goodL (c :: r ++ 47 :: n) = (goodL (c :: r) && named n) := by
  show (decide (c :: (r ++ 47 :: n) = [47]) || (decide ((c :: (r ++ 47 :: n)).length ≤ 200) && (c == 47 && (stepsL (r ++ 47 :: n)).all named))) = ((decide (c :: r = [47]) || (decide ((c :: r).length ≤ 200) && (c == 47 && (stepsL r).all named))) && named n)
  have h1 : decide (c :: (r ++ 47 :: n) = [47]) = false := decide_eq_false (by simp)
  have h2 : decide (c :: r = [47]) = false := decide_eq_false hd
  have h3 : (c :: r).length ≤ 200 := by simp at hl ⊢; omega
  rw [h1, h2, stepsL_app, stepsL_none n hn, List.all_append, decide_eq_true (show (c :: (r ++ 47 :: n)).length ≤ 200 from hl), decide_eq_true h3]
  simp [Bool.and_assoc]
theorem lastP_spec {s : ByteArray} (hp : Lib.hasPrefix s.data.toList [47] = true) : (bs s)[lastP s]? = some 47 ∧ (47 : UInt8) ∉ (bs s).drop (lastP s + 1) := by
  obtain ⟨hL, hlt⟩ := lastP_is hp
  have get : ∀ j, j < s.size → (((s.data[j]!).toNat : Int) = 47 ↔ (bs s)[j]? = some 47) := by
    intro j hj
    have hj2 : j < (bs s).length := by rw [length_bs]; exact hj
    have h1 : s.data[j]! = (bs s)[j] := by
      rw [← Array.getElem!_toList]
      exact getElem!_pos s.data.toList j hj2
    rw [h1, List.getElem?_eq_getElem hj2]
    constructor
    · intro h
      have h2 : (bs s)[j].toNat = (47 : UInt8).toNat := by
        have : (47 : UInt8).toNat = 47 := rfl
        omega
      rw [UInt8.toNat_inj.1 h2]
    · intro h
      injection h with h
      rw [h]; rfl
  rcases Lib.lastIndexByte_spec s 47 with ⟨e, _⟩ | ⟨i, hi, e, hc, hn⟩
  · omega
  · have hik : lastP s = i := by omega
    rw [hik]
    refine ⟨(get i hi).1 hc, fun hm => ?_⟩
    obtain ⟨k, hk⟩ := List.mem_iff_getElem?.1 hm
    rw [List.getElem?_drop] at hk
    have hk2 : i + 1 + k < s.size := by
      have := (List.getElem?_eq_some_iff.1 hk).1
      rw [length_bs] at this
      exact this
    exact hn (i + 1 + k) (by omega) hk2 ((get _ hk2).2 hk)
/-- a text whose last slash stands behind d -/
theorem lastP_of {s : ByteArray} {d n : List UInt8} (h : bs s = d ++ 47 :: n) (hn : (47 : UInt8) ∉ n) (hp : Lib.hasPrefix s.data.toList [47] = true) : lastP s = d.length := by
  obtain ⟨h1, h2⟩ := lastP_spec hp
  rw [h] at h1 h2
  rcases Nat.lt_trichotomy (lastP s) d.length with hlt | heq | hgt
  · exfalso
    apply h2
    rw [List.drop_append]
    have : d.length - (lastP s + 1) + (lastP s + 1) = d.length := by omega
    rw [show lastP s + 1 - d.length = 0 from by omega]
    simp
  · exact heq
  · exfalso
    rw [List.getElem?_append_right (by omega)] at h1
    obtain ⟨m, hm⟩ : ∃ m, lastP s - d.length = m + 1 := ⟨lastP s - d.length - 1, by omega⟩
    rw [hm, List.getElem?_cons_succ] at h1
    exact hn (List.mem_iff_getElem?.2 ⟨m, h1⟩)
theorem slash_bs : bs slash = [47] := rfl
theorem good_slash : goodP slash = true := by unfold goodP slash; rw [decide_eq_true rfl]; rfl
theorem pre_of_bs {s : ByteArray} {r : List UInt8} (h : bs s = 47 :: r) : Lib.hasPrefix s.data.toList [47] = true := by
  show Lib.hasPrefix (bs s) [47] = true
  rw [h]
  simp [Lib.hasPrefix, List.isPrefixOf]
theorem bs_pre {s : ByteArray} (h : Lib.hasPrefix s.data.toList [47] = true) : ∃ r, bs s = 47 :: r := by
  have h2 : Lib.hasPrefix (bs s) [47] = true := h
  cases hb : bs s with
  | nil => rw [hb] at h2; cases h2
  | cons c r =>
    rw [hb] at h2
    have : (47 : UInt8) = c := by simpa [Lib.hasPrefix, List.isPrefixOf] using h2
    exact ⟨r, by rw [← this]⟩
theorem size_bs (s : ByteArray) : s.size = (bs s).length := (length_bs s).symm
/-- what Split gives can be joined again -/
theorem split_join {s : ByteArray} (h : goodP s = true) (hs : s ≠ slash) : joinR (splitR s).1 (splitR s).2.1 = (s, 0) ∧ goodP (splitR s).1 = true ∧ named (bs (splitR s).2.1) = true ∧ (splitR s).2.2 = 0 := by
  obtain ⟨hp, _⟩ := goodP_pre h hs
  obtain ⟨h1, h2⟩ := lastP_spec hp
  have hcut := cut_at h1
  have hsz := goodP_size h
  have hlen : (bs s).length ≤ 200 := by rw [length_bs]; exact hsz.2
  have hbs : bs (s.extract (lastP s + 1) s.size) = (bs s).drop (lastP s + 1) := by
    rw [bs_extract, List.take_of_length_le (by rw [length_bs]; exact Nat.le_refl _)]
  have hg : goodL (bs s) = true := by rw [← goodP_L]; exact h
  unfold splitR
  rw [if_pos h, if_neg hs]
  by_cases hk : lastP s = 0
  · rw [if_pos hk]
    have hbs1 : bs (s.extract 1 s.size) = (bs s).drop 1 := by rw [hk] at hbs; exact hbs
    have hcut0 : bs s = [] ++ 47 :: bs (s.extract 1 s.size) := by
      rw [hbs1]
      rw [hk] at hcut
      simpa using hcut
    have hn : (47 : UInt8) ∉ bs (s.extract 1 s.size) := by rw [hbs1]; rw [hk] at h2; exact h2
    have hcut1 : bs s = 47 :: bs (s.extract 1 s.size) := hcut0
    have hj := goodL_root (bs (s.extract 1 s.size)) hn (by rw [← hcut1]; exact hlen)
    rw [← hcut1, hg] at hj
    have hne : bs (s.extract 1 s.size) ≠ [] := by
      intro h0
      rw [h0] at hcut0
      exact hs (bs_inj (by rw [hcut0]; rfl))
    have hnm : named (bs (s.extract 1 s.size)) = true := by
      simp only [decide_eq_false hne, Bool.false_or] at hj
      exact hj.symm
    refine ⟨?_, good_slash, hnm, rfl⟩
    have hjt : joinT slash (s.extract 1 s.size) = s := by
      unfold joinT
      rw [if_pos rfl]
      apply bs_inj
      rw [bs_append, slash_bs, hcut0]
      rfl
    unfold joinR
    rw [good_slash, hnm, hjt, Bool.and_self, if_pos rfl, if_neg (by omega)]
  · rw [if_neg hk]
    have hbd : bs (s.extract 0 (lastP s)) = (bs s).take (lastP s) := by rw [bs_extract]; rfl
    have hcut0 : bs s = bs (s.extract 0 (lastP s)) ++ 47 :: bs (s.extract (lastP s + 1) s.size) := by rw [hbd, hbs]; exact hcut
    have hn : (47 : UInt8) ∉ bs (s.extract (lastP s + 1) s.size) := by rw [hbs]; exact h2
    have hlt := (lastP_is hp).2
    have hdl : (bs (s.extract 0 (lastP s))).length = lastP s := by rw [hbd, List.length_take, length_bs]; omega
    generalize s.extract 0 (lastP s) = d at *
    generalize s.extract (lastP s + 1) s.size = n at *
    have hds : bs d ≠ [47] := by
      intro h0
      rw [h0] at hcut0
      have : goodL (47 :: 47 :: bs n) = true := by rw [hcut0] at hg; exact hg
      have h3 : (47 :: 47 :: bs n).length ≤ 200 := by rw [hcut0] at hlen; exact hlen
      have h4 := stepsL_cons 47 (bs n)
      unfold goodL at this
      simp only [h4, if_true, List.all_cons, decide_eq_false (show ¬ (47 :: 47 :: bs n = [47]) by simp)] at this
      have h5 : named [] = false := by decide
      rw [h5] at this
      simp at this
    cases hbd2 : bs d with
    | nil => rw [hbd2] at hdl; simp at hdl; omega
    | cons c r =>
      rw [hbd2] at hds
      have hcut1 : bs s = c :: r ++ 47 :: bs n := by rw [hcut0, hbd2]
      have hj := goodL_deep c r (bs n) hds hn (by rw [← hcut1]; exact hlen)
      rw [← hcut1, hg] at hj
      have hj2 : goodL (c :: r) = true ∧ named (bs n) = true := by
        have := hj.symm
        simpa [Bool.and_eq_true] using this
      have hgd : goodP d = true := by rw [goodP_L, hbd2]; exact hj2.1
      have hdne : d ≠ slash := fun e => hds (by rw [← hbd2, e]; rfl)
      refine ⟨?_, hgd, hj2.2, rfl⟩
      have hjt : joinT d n = s := by
        unfold joinT
        rw [if_neg hdne]
        apply bs_inj
        rw [bs_append, bs_append, slash_bs, hcut0]
        simp
      unfold joinR
      rw [hgd, hj2.2, hjt, Bool.and_self, if_pos rfl, if_neg (by omega)]
end Go.Proofs.YteolglmifimnaaaDoor
