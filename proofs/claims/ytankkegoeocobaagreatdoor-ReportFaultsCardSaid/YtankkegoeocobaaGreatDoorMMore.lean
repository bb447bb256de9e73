/- some more of the shelf's contracts -/
import Derived.Shelf.Strings.Builder1
import Derived.Shelf.Strings.Builder2
import Derived.Shelf.Strings.OnBuilder
import Derived.Shelf.Small.Utf8
import Derived.Shelf.Small.Bits
import Derived.Shelf.Small.Strs
import Derived.Shelf.Small.Wraps
import Derived.Shelf.Strings.BuilderF
import Derived.Shelf.Strings.BuilderK
import Derived.Shelf.Utf8.AppendRunePlain
import Derived.Shelf.Utf8.RuneCount
import Derived.Shelf.Strings.Builder2Cap
import Derived.Shelf.Strconv.Itoa0
import Derived.Shelf.Strconv.Itoa1
import Derived.Shelf.LaysM
import Derived.Shelf.Strconv.Itoa2
import Derived.Shelf.Strconv.Itoa3
import Derived.Shelf.Strings.Search1
import Derived.Shelf.Strings.Search2
import Derived.Shelf.Strings.Search3
import Derived.Shelf.Strings.Cut
import Derived.Shelf.Strings.Count
import Derived.Shelf.Strings.Shaped
import Derived.Shelf.Strings.Prefix
import Derived.Shelf.Strings.Split
import Derived.Shelf.Strings.SplitShaped
import Derived.Shelf.Unicode.Decode
import Derived.Shelf.Strings.Runes
import Derived.Shelf.Strings.RuneCount
import Derived.Shelf.Strings.IndexAny
import Derived.Shelf.Strings.AsciiSet
import Derived.Shelf.Strings.IndexAnyAll
import Derived.Shelf.Strings.Explode
import Derived.Shelf.Bits.Mul64
import Derived.Shelf.Strings.Repeat
import Derived.Shelf.Unicode.DecodeSlow
import Derived.Shelf.Unicode.DecodeAny
import Derived.Shelf.Unicode.DecodeLast
import Derived.Shelf.Strings.BuilderCap
import Derived.Ground.Names2Prog
import Derived.Shelf.Slices.SearchI
import Derived.Test.YtankkegoeocobaaGreatDoorProg
import Derived.Test.YtankkegoeocobaaGreatDoorMShelf
namespace Go.Proofs
open Go.Shelf
def Tryz.laysM171_ren : Go.Shelf.Ren := ⟨fun | 171 => 61 | 243 => 121 | 246 => 211 | 283 => 302 | 284 => 303 | 285 => 304 | 286 => 305 | 129 => 379 | 317 => 378 | 318 => 380 | 319 => 381 | 320 => 382 | 337 => 431 | 338 => 432 | n => n, fun | 3 => 3 | 9 => 9 | 2 => 2 | 4 => 4 | 171 => 319 | 0 => 0 | 53 => 27 | 37 => 102 | 5 => 5 | 173 => 322 | 212 => 377 | 51 => 28 | 20 => 20 | 213 => 378 | 46 => 104 | 232 => 436 | 233 => 437 | n => n, fun | 17 => 5 | 18 => 6 | 19 => 7 | n => n⟩
theorem Tryz.laysM171 : Go.Proofs.LaysM.n171 Tryz.prog Tryz.laysM171_ren := {
 mixed := by kernel_rfl
 f129 := Tryz.func379.trans (congrArg some (by kernel_rfl))
 f171 := Tryz.func61.trans (congrArg some (by kernel_rfl))
 f243 := Tryz.func121.trans (congrArg some (by kernel_rfl))
 f246 := Tryz.func211.trans (congrArg some (by kernel_rfl))
 f283 := Tryz.func302.trans (congrArg some (by kernel_rfl))
 f284 := Tryz.func303.trans (congrArg some (by kernel_rfl))
 f285 := Tryz.func304.trans (congrArg some (by kernel_rfl))
 f286 := Tryz.func305.trans (congrArg some (by kernel_rfl))
 f317 := Tryz.func378.trans (congrArg some (by kernel_rfl))
 f318 := Tryz.func380.trans (congrArg some (by kernel_rfl))
 f319 := Tryz.func381.trans (congrArg some (by kernel_rfl))
 f320 := Tryz.func382.trans (congrArg some (by kernel_rfl))
 f337 := Tryz.func431.trans (congrArg some (by kernel_rfl))
 f338 := Tryz.func432.trans (congrArg some (by kernel_rfl))
 t0 := Tryz.underlying0
 a0 := Tryz.isAgg0
 z0 := Tryz.sizeOf0
 v0 := Tryz.zeroValue0
 t2 := Tryz.underlying2
 a2 := Tryz.isAgg2
 z2 := Tryz.sizeOf2
 v2 := Tryz.zeroValue2
 t3 := Tryz.underlying3
 a3 := Tryz.isAgg3
 z3 := Tryz.sizeOf3
 v3 := Tryz.zeroValue3
 t4 := Tryz.underlying4
 a4 := Tryz.isAgg4
 z4 := Tryz.sizeOf4
 v4 := Tryz.zeroValue4
 t5 := Tryz.underlying5
 a5 := Tryz.isAgg5
 z5 := Tryz.sizeOf5
 v5 := Tryz.zeroValue5
 t9 := Tryz.underlying9
 a9 := Tryz.isAgg9
 z9 := Tryz.sizeOf9
 v9 := Tryz.zeroValue9
 t20 := Tryz.underlying20
 a20 := Tryz.isAgg20
 z20 := Tryz.sizeOf20
 v20 := Tryz.zeroValue20
 t37 := Tryz.underlying102
 a37 := Tryz.isAgg102
 z37 := Tryz.sizeOf102
 v37 := Tryz.zeroValue102
 t46 := Tryz.underlying104
 a46 := Tryz.isAgg104
 z46 := Tryz.sizeOf104
 v46 := Tryz.zeroValue104
 t51 := Tryz.underlying28
 a51 := Tryz.isAgg28
 z51 := Tryz.sizeOf28
 v51 := Tryz.zeroValue28
 t53 := Tryz.underlying27
 a53 := Tryz.isAgg27
 z53 := Tryz.sizeOf27
 v53 := Tryz.zeroValue27
 t171 := Tryz.underlying319
 a171 := Tryz.isAgg319
 z171 := Tryz.sizeOf319
 v171 := Tryz.zeroValue319
 t173 := Tryz.underlying322
 a173 := Tryz.isAgg322
 z173 := Tryz.sizeOf322
 v173 := Tryz.zeroValue322
 t212 := Tryz.underlying377
 a212 := Tryz.isAgg377
 z212 := Tryz.sizeOf377
 v212 := Tryz.zeroValue377
 t213 := Tryz.underlying378
 a213 := Tryz.isAgg378
 z213 := Tryz.sizeOf378
 t232 := Tryz.underlying436
 a232 := Tryz.isAgg436
 z232 := Tryz.sizeOf436
 v232 := Tryz.zeroValue436
 t233 := Tryz.underlying437
 a233 := Tryz.isAgg437
 z233 := Tryz.sizeOf437
 v233 := Tryz.zeroValue437
 g17 := by kernel_rfl
 g18 := by kernel_rfl
 g19 := by kernel_rfl
 i0 := by kernel_rfl
 i2 := by kernel_rfl
 i3 := by kernel_rfl
 i4 := by kernel_rfl
 i5 := by kernel_rfl
 i9 := by kernel_rfl
 i20 := by kernel_rfl
 i37 := by kernel_rfl
 i46 := by kernel_rfl
 i51 := by kernel_rfl
 i53 := by kernel_rfl
 i171 := by kernel_rfl
 i173 := by kernel_rfl
 i212 := by kernel_rfl
 i232 := by kernel_rfl
 i233 := by kernel_rfl
 m17 := by kernel_rfl
 m18 := by kernel_rfl
 m19 := by kernel_rfl }
open Go.RowKit Go.Sort Go.Lib in
theorem Tryz.strconv_Itoa (n : Int) (h0 : -9223372036854775808 ≤ n) (h1 : n ≤ 9223372036854775807) (w : World) (htab : Lib.TabIs Tryz.prog w "internal/strconv.uint64pow10" .u64 Lib.pow10Tab) :
   Calls Tryz.prog 61 #[.int .i64 n] w fun e w' => e = .returned (.string ⟨(Lib.itoa n).toArray⟩) ∧ ∃ k os, w' = grow (w.drewN k) os := Any.strconv_Itoa Tryz.laysM171 n h0 h1 w htab
def Tryz.lays219_ren : Go.Shelf.Ren := ⟨fun | 219 => 217 | 217 => 126 | 225 => 307 | 224 => 308 | 267 => 309 | 266 => 216 | 314 => 383 | n => n, fun | 9 => 9 | 3 => 3 | 4 => 4 | 5 => 5 | 46 => 104 | 146 => 380 | 51 => 28 | n => n, fun | 1 => 4 | n => n⟩
theorem Tryz.lays219 : Go.Proofs.Lays.n219 Tryz.prog Tryz.lays219_ren := {
 mixed := by kernel_rfl
 f217 := Tryz.func126.trans (congrArg some (by kernel_rfl))
 f219 := Tryz.func217.trans (congrArg some (by kernel_rfl))
 f224 := Tryz.func308.trans (congrArg some (by kernel_rfl))
 f225 := Tryz.func307.trans (congrArg some (by kernel_rfl))
 f266 := Tryz.func216.trans (congrArg some (by kernel_rfl))
 f267 := Tryz.func309.trans (congrArg some (by kernel_rfl))
 f314 := Tryz.func383.trans (congrArg some (by kernel_rfl))
 t3 := Tryz.underlying3
 a3 := Tryz.isAgg3
 z3 := Tryz.sizeOf3
 v3 := Tryz.zeroValue3
 t4 := Tryz.underlying4
 a4 := Tryz.isAgg4
 z4 := Tryz.sizeOf4
 v4 := Tryz.zeroValue4
 t5 := Tryz.underlying5
 a5 := Tryz.isAgg5
 z5 := Tryz.sizeOf5
 v5 := Tryz.zeroValue5
 t9 := Tryz.underlying9
 a9 := Tryz.isAgg9
 z9 := Tryz.sizeOf9
 v9 := Tryz.zeroValue9
 t46 := Tryz.underlying104
 a46 := Tryz.isAgg104
 z46 := Tryz.sizeOf104
 v46 := Tryz.zeroValue104
 t51 := Tryz.underlying28
 a51 := Tryz.isAgg28
 z51 := Tryz.sizeOf28
 v51 := Tryz.zeroValue28
 t146 := Tryz.underlying380
 a146 := Tryz.isAgg380
 z146 := Tryz.sizeOf380
 v146 := Tryz.zeroValue380
 g1 := by kernel_rfl }
open Go.RowKit Go.Lib in
theorem Tryz.stringslite_Index (s sub : ByteArray) (m : Int) (w : World) (hs : s.size < 4294967281) (hm : w.cell? ⟨4, 0, none⟩ = some (.int .i64 m)) :
   Calls Tryz.prog 217 #[.string s, .string sub] w fun e w' => e = .returned (.int .i64 (Lib.index s.data.toList sub.data.toList)) ∧ w' = w := Any.stringslite_Index Tryz.lays219 s sub m w hs hm
def Tryz.lays145_ren : Go.Shelf.Ren := ⟨fun | 145 => 69 | 220 => 129 | 219 => 217 | 217 => 126 | 225 => 307 | 224 => 308 | 267 => 309 | 266 => 216 | 314 => 383 | n => n, fun | 9 => 9 | 4 => 4 | 59 => 110 | 3 => 3 | 5 => 5 | 46 => 104 | 146 => 380 | 51 => 28 | n => n, fun | 1 => 4 | n => n⟩
theorem Tryz.lays145 : Go.Proofs.Lays.n145 Tryz.prog Tryz.lays145_ren := {
 mixed := by kernel_rfl
 f145 := Tryz.func69.trans (congrArg some (by kernel_rfl))
 f217 := Tryz.func126.trans (congrArg some (by kernel_rfl))
 f219 := Tryz.func217.trans (congrArg some (by kernel_rfl))
 f220 := Tryz.func129.trans (congrArg some (by kernel_rfl))
 f224 := Tryz.func308.trans (congrArg some (by kernel_rfl))
 f225 := Tryz.func307.trans (congrArg some (by kernel_rfl))
 f266 := Tryz.func216.trans (congrArg some (by kernel_rfl))
 f267 := Tryz.func309.trans (congrArg some (by kernel_rfl))
 f314 := Tryz.func383.trans (congrArg some (by kernel_rfl))
 t3 := Tryz.underlying3
 a3 := Tryz.isAgg3
 z3 := Tryz.sizeOf3
 v3 := Tryz.zeroValue3
 t4 := Tryz.underlying4
 a4 := Tryz.isAgg4
 z4 := Tryz.sizeOf4
 v4 := Tryz.zeroValue4
 t5 := Tryz.underlying5
 a5 := Tryz.isAgg5
 z5 := Tryz.sizeOf5
 v5 := Tryz.zeroValue5
 t9 := Tryz.underlying9
 a9 := Tryz.isAgg9
 z9 := Tryz.sizeOf9
 v9 := Tryz.zeroValue9
 t46 := Tryz.underlying104
 a46 := Tryz.isAgg104
 z46 := Tryz.sizeOf104
 v46 := Tryz.zeroValue104
 t51 := Tryz.underlying28
 a51 := Tryz.isAgg28
 z51 := Tryz.sizeOf28
 v51 := Tryz.zeroValue28
 t59 := Tryz.underlying110
 a59 := Tryz.isAgg110
 z59 := Tryz.sizeOf110
 v59 := Tryz.zeroValue110
 t146 := Tryz.underlying380
 a146 := Tryz.isAgg380
 z146 := Tryz.sizeOf380
 v146 := Tryz.zeroValue380
 g1 := by kernel_rfl }
open Go.RowKit Go.Lib in
theorem Tryz.strings_Cut (s sep : ByteArray) (m : Int) (w : World) (hs : s.size < 4294967281) (hm : w.cell? ⟨4, 0, none⟩ = some (.int .i64 m)) :
   Calls Tryz.prog 69 #[.string s, .string sep] w fun e w' => e = .returned (.tuple #[.string ⟨(Lib.cut s.data.toList sep.data.toList).1.toArray⟩, .string ⟨(Lib.cut s.data.toList sep.data.toList).2.1.toArray⟩, .bool (Lib.cut s.data.toList sep.data.toList).2.2]) ∧ ∃ n, w' = w.drewN n := Any.strings_Cut Tryz.lays145 s sep m w hs hm
end Go.Proofs
