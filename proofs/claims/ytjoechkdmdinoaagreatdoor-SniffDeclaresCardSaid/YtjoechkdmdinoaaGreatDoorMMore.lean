/- some more of the shelf's contracts -/
import Derived.Shelf.Strings.Builder1
import Derived.Shelf.Strings.Builder2
import Derived.Shelf.Strings.OnBuilder
import Derived.Shelf.Strings.Trim
import Derived.Shelf.Small.Utf8
import Derived.Shelf.Small.Bits
import Derived.Shelf.Small.Strs
import Derived.Shelf.Small.Wraps
import Derived.Shelf.Strings.BuilderF
import Derived.Shelf.Strings.BuilderK
import Derived.Shelf.Utf8.AppendRunePlain
import Derived.Shelf.Utf8.RuneCount
import Derived.Shelf.Strconv.Itoa0
import Derived.Shelf.Strconv.Itoa1
import Derived.Shelf.LaysM
import Derived.Shelf.Strconv.Itoa2
import Derived.Shelf.Strconv.Itoa3
import Derived.Shelf.Strings.Search1
import Derived.Shelf.Strings.Search2
import Derived.Shelf.Strings.Search3
import Derived.Shelf.Strings.Cut
import Derived.Shelf.Strings.Count
import Derived.Shelf.Strings.Shaped
import Derived.Shelf.Strings.LastIndex
import Derived.Shelf.Strings.Prefix
import Derived.Shelf.Strings.Split
import Derived.Shelf.Strings.SplitShaped
import Derived.Shelf.Unicode.Decode
import Derived.Shelf.Strings.Runes
import Derived.Shelf.Strings.RuneCount
import Derived.Shelf.Strings.IndexAny
import Derived.Shelf.Strings.AsciiSet
import Derived.Shelf.Strings.IndexAnyAll
import Derived.Shelf.Strings.Explode
import Derived.Shelf.Bits.Mul64
import Derived.Shelf.Unicode.DecodeSlow
import Derived.Shelf.Unicode.DecodeAny
import Derived.Shelf.Unicode.DecodeLast
import Derived.Ground.Names2Prog
import Derived.Shelf.Slices.SearchI
import Derived.Test.YtjoechkdmdinoaaGreatDoorProg
import Derived.Test.YtjoechkdmdinoaaGreatDoorMShelf
namespace Go.Proofs
open Go.Shelf
def Tryz.lays161_ren : Go.Shelf.Ren := ⟨fun | 161 => 87 | 231 => 155 | 227 => 157 | 233 => 158 | 235 => 160 | 228 => 164 | 197 => 257 | 151 => 258 | 260 => 350 | 152 => 162 | 137 => 58 | 119 => 260 | 224 => 261 | 225 => 262 | 217 => 107 | 266 => 186 | n => n, fun | 9 => 9 | 4 => 4 | 3 => 3 | 5 => 5 | 117 => 192 | 116 => 191 | 0 => 0 | 124 => 195 | 105 => 73 | 21 => 21 | 119 => 410 | 46 => 78 | 139 => 413 | 138 => 412 | n => n, fun | 3 => 4 | 4 => 5 | n => n⟩
theorem Tryz.lays161 : Go.Proofs.Lays.n161 Tryz.prog Tryz.lays161_ren := {
 mixed := by kernel_rfl
 f119 := Tryz.func260.trans (congrArg some (by kernel_rfl))
 f137 := Tryz.func58.trans (congrArg some (by kernel_rfl))
 f151 := Tryz.func258.trans (congrArg some (by kernel_rfl))
 f152 := Tryz.func162.trans (congrArg some (by kernel_rfl))
 f161 := Tryz.func87.trans (congrArg some (by kernel_rfl))
 f197 := Tryz.func257.trans (congrArg some (by kernel_rfl))
 f217 := Tryz.func107.trans (congrArg some (by kernel_rfl))
 f224 := Tryz.func261.trans (congrArg some (by kernel_rfl))
 f225 := Tryz.func262.trans (congrArg some (by kernel_rfl))
 f227 := Tryz.func157.trans (congrArg some (by kernel_rfl))
 f228 := Tryz.func164.trans (congrArg some (by kernel_rfl))
 f231 := Tryz.func155.trans (congrArg some (by kernel_rfl))
 f233 := Tryz.func158.trans (congrArg some (by kernel_rfl))
 f235 := Tryz.func160.trans (congrArg some (by kernel_rfl))
 f260 := Tryz.func350.trans (congrArg some (by kernel_rfl))
 f266 := Tryz.func186.trans (congrArg some (by kernel_rfl))
 t0 := Tryz.underlying0
 a0 := Tryz.isAgg0
 z0 := Tryz.sizeOf0
 v0 := Tryz.zeroValue0
 t3 := Tryz.underlying3
 a3 := Tryz.isAgg3
 z3 := Tryz.sizeOf3
 v3 := Tryz.zeroValue3
 t4 := Tryz.underlying4
 a4 := Tryz.isAgg4
 z4 := Tryz.sizeOf4
 v4 := Tryz.zeroValue4
 t5 := Tryz.underlying5
 a5 := Tryz.isAgg5
 z5 := Tryz.sizeOf5
 v5 := Tryz.zeroValue5
 t9 := Tryz.underlying9
 a9 := Tryz.isAgg9
 z9 := Tryz.sizeOf9
 v9 := Tryz.zeroValue9
 t21 := Tryz.underlying21
 a21 := Tryz.isAgg21
 z21 := Tryz.sizeOf21
 v21 := Tryz.zeroValue21
 t46 := Tryz.underlying78
 a46 := Tryz.isAgg78
 z46 := Tryz.sizeOf78
 v46 := Tryz.zeroValue78
 t105 := Tryz.underlying73
 a105 := Tryz.isAgg73
 z105 := Tryz.sizeOf73
 v105 := Tryz.zeroValue73
 t116 := Tryz.underlying191
 a116 := Tryz.isAgg191
 z116 := Tryz.sizeOf191
 t117 := Tryz.underlying192
 a117 := Tryz.isAgg192
 z117 := Tryz.sizeOf192
 v117 := Tryz.zeroValue192
 t119 := Tryz.underlying410
 a119 := Tryz.isAgg410
 z119 := Tryz.sizeOf410
 t124 := Tryz.underlying195
 a124 := Tryz.isAgg195
 z124 := Tryz.sizeOf195
 v124 := Tryz.zeroValue195
 t138 := Tryz.underlying412
 a138 := Tryz.isAgg412
 z138 := Tryz.sizeOf412
 v138 := Tryz.zeroValue412
 t139 := Tryz.underlying413
 a139 := Tryz.isAgg413
 z139 := Tryz.sizeOf413
 v139 := Tryz.zeroValue413
 g3 := by kernel_rfl
 g4 := by kernel_rfl }
open Go.RowKit in
theorem Tryz.strings_TrimLeft_one (s : ByteArray) (c : UInt8) (hc : c.toNat < 128) (w : World) :
   Calls Tryz.prog 87 #[.string s, .string ⟨#[c]⟩] w fun e w' => e = .returned (.string ⟨(Lib.trimLeftB s.data.toList c).toArray⟩) ∧ w' = w := Any.strings_TrimLeft_one Tryz.lays161 s c hc w
def Tryz.lays160_ren : Go.Shelf.Ren := ⟨fun | 160 => 86 | 232 => 156 | 231 => 155 | 227 => 157 | 234 => 159 | 233 => 158 | 236 => 161 | 235 => 160 | 228 => 164 | 271 => 259 | 151 => 258 | 197 => 257 | 120 => 351 | 152 => 162 | 260 => 350 | 137 => 58 | 119 => 260 | 224 => 261 | 225 => 262 | 217 => 107 | 266 => 186 | n => n, fun | 9 => 9 | 4 => 4 | 3 => 3 | 5 => 5 | 117 => 192 | 116 => 191 | 0 => 0 | 124 => 195 | 21 => 21 | 105 => 73 | 46 => 78 | 119 => 410 | 139 => 413 | 138 => 412 | n => n, fun | 3 => 4 | 4 => 5 | n => n⟩
theorem Tryz.lays160 : Go.Proofs.Lays.n160 Tryz.prog Tryz.lays160_ren := {
 mixed := by kernel_rfl
 f119 := Tryz.func260.trans (congrArg some (by kernel_rfl))
 f120 := Tryz.func351.trans (congrArg some (by kernel_rfl))
 f137 := Tryz.func58.trans (congrArg some (by kernel_rfl))
 f151 := Tryz.func258.trans (congrArg some (by kernel_rfl))
 f152 := Tryz.func162.trans (congrArg some (by kernel_rfl))
 f160 := Tryz.func86.trans (congrArg some (by kernel_rfl))
 f197 := Tryz.func257.trans (congrArg some (by kernel_rfl))
 f217 := Tryz.func107.trans (congrArg some (by kernel_rfl))
 f224 := Tryz.func261.trans (congrArg some (by kernel_rfl))
 f225 := Tryz.func262.trans (congrArg some (by kernel_rfl))
 f227 := Tryz.func157.trans (congrArg some (by kernel_rfl))
 f228 := Tryz.func164.trans (congrArg some (by kernel_rfl))
 f231 := Tryz.func155.trans (congrArg some (by kernel_rfl))
 f232 := Tryz.func156.trans (congrArg some (by kernel_rfl))
 f233 := Tryz.func158.trans (congrArg some (by kernel_rfl))
 f234 := Tryz.func159.trans (congrArg some (by kernel_rfl))
 f235 := Tryz.func160.trans (congrArg some (by kernel_rfl))
 f236 := Tryz.func161.trans (congrArg some (by kernel_rfl))
 f260 := Tryz.func350.trans (congrArg some (by kernel_rfl))
 f266 := Tryz.func186.trans (congrArg some (by kernel_rfl))
 f271 := Tryz.func259.trans (congrArg some (by kernel_rfl))
 t0 := Tryz.underlying0
 a0 := Tryz.isAgg0
 z0 := Tryz.sizeOf0
 v0 := Tryz.zeroValue0
 t3 := Tryz.underlying3
 a3 := Tryz.isAgg3
 z3 := Tryz.sizeOf3
 v3 := Tryz.zeroValue3
 t4 := Tryz.underlying4
 a4 := Tryz.isAgg4
 z4 := Tryz.sizeOf4
 v4 := Tryz.zeroValue4
 t5 := Tryz.underlying5
 a5 := Tryz.isAgg5
 z5 := Tryz.sizeOf5
 v5 := Tryz.zeroValue5
 t9 := Tryz.underlying9
 a9 := Tryz.isAgg9
 z9 := Tryz.sizeOf9
 v9 := Tryz.zeroValue9
 t21 := Tryz.underlying21
 a21 := Tryz.isAgg21
 z21 := Tryz.sizeOf21
 v21 := Tryz.zeroValue21
 t46 := Tryz.underlying78
 a46 := Tryz.isAgg78
 z46 := Tryz.sizeOf78
 v46 := Tryz.zeroValue78
 t105 := Tryz.underlying73
 a105 := Tryz.isAgg73
 z105 := Tryz.sizeOf73
 v105 := Tryz.zeroValue73
 t116 := Tryz.underlying191
 a116 := Tryz.isAgg191
 z116 := Tryz.sizeOf191
 t117 := Tryz.underlying192
 a117 := Tryz.isAgg192
 z117 := Tryz.sizeOf192
 v117 := Tryz.zeroValue192
 t119 := Tryz.underlying410
 a119 := Tryz.isAgg410
 z119 := Tryz.sizeOf410
 t124 := Tryz.underlying195
 a124 := Tryz.isAgg195
 z124 := Tryz.sizeOf195
 v124 := Tryz.zeroValue195
 t138 := Tryz.underlying412
 a138 := Tryz.isAgg412
 z138 := Tryz.sizeOf412
 v138 := Tryz.zeroValue412
 t139 := Tryz.underlying413
 a139 := Tryz.isAgg413
 z139 := Tryz.sizeOf413
 v139 := Tryz.zeroValue413
 g3 := by kernel_rfl
 g4 := by kernel_rfl }
open Go.RowKit in
theorem Tryz.strings_Trim_one (s : ByteArray) (c : UInt8) (hc : c.toNat < 128) (w : World) (hs : s.size ≤ 9223372036854775807) :
   Calls Tryz.prog 86 #[.string s, .string ⟨#[c]⟩] w fun e w' => e = .returned (.string ⟨(Lib.trimB s.data.toList c).toArray⟩) ∧ (w' = w ∨ w' = w.drew) := Any.strings_Trim_one Tryz.lays160 s c hc w hs
def Tryz.lays103_ren : Go.Shelf.Ren := ⟨fun | 103 => 99 | 210 => 176 | 206 => 80 | n => n, fun | 9 => 9 | 4 => 4 | 24 => 43 | 3 => 3 | n => n, fun | n => n⟩
theorem Tryz.lays103 : Go.Proofs.Lays.n103 Tryz.prog Tryz.lays103_ren := {
 mixed := by kernel_rfl
 f103 := Tryz.func99.trans (congrArg some (by kernel_rfl))
 f206 := Tryz.func80.trans (congrArg some (by kernel_rfl))
 f210 := Tryz.func176.trans (congrArg some (by kernel_rfl))
 t3 := Tryz.underlying3
 a3 := Tryz.isAgg3
 z3 := Tryz.sizeOf3
 v3 := Tryz.zeroValue3
 t4 := Tryz.underlying4
 a4 := Tryz.isAgg4
 z4 := Tryz.sizeOf4
 v4 := Tryz.zeroValue4
 t9 := Tryz.underlying9
 a9 := Tryz.isAgg9
 z9 := Tryz.sizeOf9
 v9 := Tryz.zeroValue9
 t24 := Tryz.underlying43
 a24 := Tryz.isAgg43
 z24 := Tryz.sizeOf43
 v24 := Tryz.zeroValue43 }
open Go.RowKit in
theorem Tryz.strings_CutPrefix (s p : ByteArray) (w : World) :
   Calls Tryz.prog 99 #[.string s, .string p] w fun e w' => e = .returned (.tuple #[.string ⟨(Lib.trimPrefix s.data.toList p.data.toList).toArray⟩, .bool (Lib.hasPrefix s.data.toList p.data.toList)]) ∧ w' = w := Any.strings_CutPrefix Tryz.lays103 s p w
def Tryz.laysM171_ren : Go.Shelf.Ren := ⟨fun | 171 => 62 | 243 => 110 | 246 => 187 | 283 => 275 | 284 => 276 | 285 => 277 | 286 => 278 | 129 => 362 | 317 => 361 | 318 => 363 | 319 => 364 | 320 => 365 | 337 => 436 | 338 => 437 | n => n, fun | 3 => 3 | 9 => 9 | 2 => 2 | 4 => 4 | 171 => 289 | 0 => 0 | 53 => 92 | 37 => 77 | 5 => 5 | 173 => 292 | 212 => 363 | 51 => 93 | 20 => 20 | 213 => 364 | 46 => 78 | 232 => 444 | 233 => 445 | n => n, fun | 17 => 3 | 18 => 6 | 19 => 7 | n => n⟩
theorem Tryz.laysM171 : Go.Proofs.LaysM.n171 Tryz.prog Tryz.laysM171_ren := {
 mixed := by kernel_rfl
 f129 := Tryz.func362.trans (congrArg some (by kernel_rfl))
 f171 := Tryz.func62.trans (congrArg some (by kernel_rfl))
 f243 := Tryz.func110.trans (congrArg some (by kernel_rfl))
 f246 := Tryz.func187.trans (congrArg some (by kernel_rfl))
 f283 := Tryz.func275.trans (congrArg some (by kernel_rfl))
 f284 := Tryz.func276.trans (congrArg some (by kernel_rfl))
 f285 := Tryz.func277.trans (congrArg some (by kernel_rfl))
 f286 := Tryz.func278.trans (congrArg some (by kernel_rfl))
 f317 := Tryz.func361.trans (congrArg some (by kernel_rfl))
 f318 := Tryz.func363.trans (congrArg some (by kernel_rfl))
 f319 := Tryz.func364.trans (congrArg some (by kernel_rfl))
 f320 := Tryz.func365.trans (congrArg some (by kernel_rfl))
 f337 := Tryz.func436.trans (congrArg some (by kernel_rfl))
 f338 := Tryz.func437.trans (congrArg some (by kernel_rfl))
 t0 := Tryz.underlying0
 a0 := Tryz.isAgg0
 z0 := Tryz.sizeOf0
 v0 := Tryz.zeroValue0
 t2 := Tryz.underlying2
 a2 := Tryz.isAgg2
 z2 := Tryz.sizeOf2
 v2 := Tryz.zeroValue2
 t3 := Tryz.underlying3
 a3 := Tryz.isAgg3
 z3 := Tryz.sizeOf3
 v3 := Tryz.zeroValue3
 t4 := Tryz.underlying4
 a4 := Tryz.isAgg4
 z4 := Tryz.sizeOf4
 v4 := Tryz.zeroValue4
 t5 := Tryz.underlying5
 a5 := Tryz.isAgg5
 z5 := Tryz.sizeOf5
 v5 := Tryz.zeroValue5
 t9 := Tryz.underlying9
 a9 := Tryz.isAgg9
 z9 := Tryz.sizeOf9
 v9 := Tryz.zeroValue9
 t20 := Tryz.underlying20
 a20 := Tryz.isAgg20
 z20 := Tryz.sizeOf20
 v20 := Tryz.zeroValue20
 t37 := Tryz.underlying77
 a37 := Tryz.isAgg77
 z37 := Tryz.sizeOf77
 v37 := Tryz.zeroValue77
 t46 := Tryz.underlying78
 a46 := Tryz.isAgg78
 z46 := Tryz.sizeOf78
 v46 := Tryz.zeroValue78
 t51 := Tryz.underlying93
 a51 := Tryz.isAgg93
 z51 := Tryz.sizeOf93
 v51 := Tryz.zeroValue93
 t53 := Tryz.underlying92
 a53 := Tryz.isAgg92
 z53 := Tryz.sizeOf92
 v53 := Tryz.zeroValue92
 t171 := Tryz.underlying289
 a171 := Tryz.isAgg289
 z171 := Tryz.sizeOf289
 v171 := Tryz.zeroValue289
 t173 := Tryz.underlying292
 a173 := Tryz.isAgg292
 z173 := Tryz.sizeOf292
 v173 := Tryz.zeroValue292
 t212 := Tryz.underlying363
 a212 := Tryz.isAgg363
 z212 := Tryz.sizeOf363
 v212 := Tryz.zeroValue363
 t213 := Tryz.underlying364
 a213 := Tryz.isAgg364
 z213 := Tryz.sizeOf364
 t232 := Tryz.underlying444
 a232 := Tryz.isAgg444
 z232 := Tryz.sizeOf444
 v232 := Tryz.zeroValue444
 t233 := Tryz.underlying445
 a233 := Tryz.isAgg445
 z233 := Tryz.sizeOf445
 v233 := Tryz.zeroValue445
 g17 := by kernel_rfl
 g18 := by kernel_rfl
 g19 := by kernel_rfl
 i0 := by kernel_rfl
 i2 := by kernel_rfl
 i3 := by kernel_rfl
 i4 := by kernel_rfl
 i5 := by kernel_rfl
 i9 := by kernel_rfl
 i20 := by kernel_rfl
 i37 := by kernel_rfl
 i46 := by kernel_rfl
 i51 := by kernel_rfl
 i53 := by kernel_rfl
 i171 := by kernel_rfl
 i173 := by kernel_rfl
 i212 := by kernel_rfl
 i232 := by kernel_rfl
 i233 := by kernel_rfl
 m17 := by kernel_rfl
 m18 := by kernel_rfl
 m19 := by kernel_rfl }
open Go.RowKit Go.Sort Go.Lib in
theorem Tryz.strconv_Itoa (n : Int) (h0 : -9223372036854775808 ≤ n) (h1 : n ≤ 9223372036854775807) (w : World) (htab : Lib.TabIs Tryz.prog w "internal/strconv.uint64pow10" .u64 Lib.pow10Tab) :
   Calls Tryz.prog 62 #[.int .i64 n] w fun e w' => e = .returned (.string ⟨(Lib.itoa n).toArray⟩) ∧ ∃ k os, w' = grow (w.drewN k) os := Any.strconv_Itoa Tryz.laysM171 n h0 h1 w htab
def Tryz.lays219_ren : Go.Shelf.Ren := ⟨fun | 219 => 188 | 217 => 107 | 225 => 262 | 224 => 261 | 267 => 279 | 266 => 186 | 314 => 366 | n => n, fun | 9 => 9 | 3 => 3 | 4 => 4 | 5 => 5 | 46 => 78 | 146 => 354 | 51 => 93 | n => n, fun | 1 => 2 | n => n⟩
theorem Tryz.lays219 : Go.Proofs.Lays.n219 Tryz.prog Tryz.lays219_ren := {
 mixed := by kernel_rfl
 f217 := Tryz.func107.trans (congrArg some (by kernel_rfl))
 f219 := Tryz.func188.trans (congrArg some (by kernel_rfl))
 f224 := Tryz.func261.trans (congrArg some (by kernel_rfl))
 f225 := Tryz.func262.trans (congrArg some (by kernel_rfl))
 f266 := Tryz.func186.trans (congrArg some (by kernel_rfl))
 f267 := Tryz.func279.trans (congrArg some (by kernel_rfl))
 f314 := Tryz.func366.trans (congrArg some (by kernel_rfl))
 t3 := Tryz.underlying3
 a3 := Tryz.isAgg3
 z3 := Tryz.sizeOf3
 v3 := Tryz.zeroValue3
 t4 := Tryz.underlying4
 a4 := Tryz.isAgg4
 z4 := Tryz.sizeOf4
 v4 := Tryz.zeroValue4
 t5 := Tryz.underlying5
 a5 := Tryz.isAgg5
 z5 := Tryz.sizeOf5
 v5 := Tryz.zeroValue5
 t9 := Tryz.underlying9
 a9 := Tryz.isAgg9
 z9 := Tryz.sizeOf9
 v9 := Tryz.zeroValue9
 t46 := Tryz.underlying78
 a46 := Tryz.isAgg78
 z46 := Tryz.sizeOf78
 v46 := Tryz.zeroValue78
 t51 := Tryz.underlying93
 a51 := Tryz.isAgg93
 z51 := Tryz.sizeOf93
 v51 := Tryz.zeroValue93
 t146 := Tryz.underlying354
 a146 := Tryz.isAgg354
 z146 := Tryz.sizeOf354
 v146 := Tryz.zeroValue354
 g1 := by kernel_rfl }
open Go.RowKit Go.Lib in
theorem Tryz.stringslite_Index (s sub : ByteArray) (m : Int) (w : World) (hs : s.size < 4294967281) (hm : w.cell? ⟨2, 0, none⟩ = some (.int .i64 m)) :
   Calls Tryz.prog 188 #[.string s, .string sub] w fun e w' => e = .returned (.int .i64 (Lib.index s.data.toList sub.data.toList)) ∧ w' = w := Any.stringslite_Index Tryz.lays219 s sub m w hs hm
def Tryz.lays144_ren : Go.Shelf.Ren := ⟨fun | 144 => 348 | 143 => 424 | 219 => 188 | 217 => 107 | 225 => 262 | 224 => 261 | 267 => 279 | 266 => 186 | 314 => 366 | n => n, fun | 9 => 9 | 4 => 4 | 3 => 3 | 5 => 5 | 46 => 78 | 146 => 354 | 51 => 93 | n => n, fun | 1 => 2 | n => n⟩
theorem Tryz.lays144 : Go.Proofs.Lays.n144 Tryz.prog Tryz.lays144_ren := {
 mixed := by kernel_rfl
 f143 := Tryz.func424.trans (congrArg some (by kernel_rfl))
 f144 := Tryz.func348.trans (congrArg some (by kernel_rfl))
 f217 := Tryz.func107.trans (congrArg some (by kernel_rfl))
 f219 := Tryz.func188.trans (congrArg some (by kernel_rfl))
 f224 := Tryz.func261.trans (congrArg some (by kernel_rfl))
 f225 := Tryz.func262.trans (congrArg some (by kernel_rfl))
 f266 := Tryz.func186.trans (congrArg some (by kernel_rfl))
 f267 := Tryz.func279.trans (congrArg some (by kernel_rfl))
 f314 := Tryz.func366.trans (congrArg some (by kernel_rfl))
 t3 := Tryz.underlying3
 a3 := Tryz.isAgg3
 z3 := Tryz.sizeOf3
 v3 := Tryz.zeroValue3
 t4 := Tryz.underlying4
 a4 := Tryz.isAgg4
 z4 := Tryz.sizeOf4
 v4 := Tryz.zeroValue4
 t5 := Tryz.underlying5
 a5 := Tryz.isAgg5
 z5 := Tryz.sizeOf5
 v5 := Tryz.zeroValue5
 t9 := Tryz.underlying9
 a9 := Tryz.isAgg9
 z9 := Tryz.sizeOf9
 v9 := Tryz.zeroValue9
 t46 := Tryz.underlying78
 a46 := Tryz.isAgg78
 z46 := Tryz.sizeOf78
 v46 := Tryz.zeroValue78
 t51 := Tryz.underlying93
 a51 := Tryz.isAgg93
 z51 := Tryz.sizeOf93
 v51 := Tryz.zeroValue93
 t146 := Tryz.underlying354
 a146 := Tryz.isAgg354
 z146 := Tryz.sizeOf354
 v146 := Tryz.zeroValue354
 g1 := by kernel_rfl }
open Go.RowKit Go.Lib in
theorem Tryz.strings_Contains_one (s : ByteArray) (c : UInt8) (w : World) :
   Calls Tryz.prog 348 #[.string s, .string ⟨#[c]⟩] w fun e w' => e = .returned (.bool (decide (0 ≤ Lib.indexByte s.data.toList c))) ∧ w' = w := Any.strings_Contains_one Tryz.lays144 s c w
def Tryz.lays145_ren : Go.Shelf.Ren := ⟨fun | 145 => 66 | 220 => 112 | 219 => 188 | 217 => 107 | 225 => 262 | 224 => 261 | 267 => 279 | 266 => 186 | 314 => 366 | n => n, fun | 9 => 9 | 4 => 4 | 59 => 86 | 3 => 3 | 5 => 5 | 46 => 78 | 146 => 354 | 51 => 93 | n => n, fun | 1 => 2 | n => n⟩
theorem Tryz.lays145 : Go.Proofs.Lays.n145 Tryz.prog Tryz.lays145_ren := {
 mixed := by kernel_rfl
 f145 := Tryz.func66.trans (congrArg some (by kernel_rfl))
 f217 := Tryz.func107.trans (congrArg some (by kernel_rfl))
 f219 := Tryz.func188.trans (congrArg some (by kernel_rfl))
 f220 := Tryz.func112.trans (congrArg some (by kernel_rfl))
 f224 := Tryz.func261.trans (congrArg some (by kernel_rfl))
 f225 := Tryz.func262.trans (congrArg some (by kernel_rfl))
 f266 := Tryz.func186.trans (congrArg some (by kernel_rfl))
 f267 := Tryz.func279.trans (congrArg some (by kernel_rfl))
 f314 := Tryz.func366.trans (congrArg some (by kernel_rfl))
 t3 := Tryz.underlying3
 a3 := Tryz.isAgg3
 z3 := Tryz.sizeOf3
 v3 := Tryz.zeroValue3
 t4 := Tryz.underlying4
 a4 := Tryz.isAgg4
 z4 := Tryz.sizeOf4
 v4 := Tryz.zeroValue4
 t5 := Tryz.underlying5
 a5 := Tryz.isAgg5
 z5 := Tryz.sizeOf5
 v5 := Tryz.zeroValue5
 t9 := Tryz.underlying9
 a9 := Tryz.isAgg9
 z9 := Tryz.sizeOf9
 v9 := Tryz.zeroValue9
 t46 := Tryz.underlying78
 a46 := Tryz.isAgg78
 z46 := Tryz.sizeOf78
 v46 := Tryz.zeroValue78
 t51 := Tryz.underlying93
 a51 := Tryz.isAgg93
 z51 := Tryz.sizeOf93
 v51 := Tryz.zeroValue93
 t59 := Tryz.underlying86
 a59 := Tryz.isAgg86
 z59 := Tryz.sizeOf86
 v59 := Tryz.zeroValue86
 t146 := Tryz.underlying354
 a146 := Tryz.isAgg354
 z146 := Tryz.sizeOf354
 v146 := Tryz.zeroValue354
 g1 := by kernel_rfl }
open Go.RowKit Go.Lib in
theorem Tryz.strings_Cut (s sep : ByteArray) (m : Int) (w : World) (hs : s.size < 4294967281) (hm : w.cell? ⟨2, 0, none⟩ = some (.int .i64 m)) :
   Calls Tryz.prog 66 #[.string s, .string sep] w fun e w' => e = .returned (.tuple #[.string ⟨(Lib.cut s.data.toList sep.data.toList).1.toArray⟩, .string ⟨(Lib.cut s.data.toList sep.data.toList).2.1.toArray⟩, .bool (Lib.cut s.data.toList sep.data.toList).2.2]) ∧ ∃ n, w' = w.drewN n := Any.strings_Cut Tryz.lays145 s sep m w hs hm
def Tryz.lays148_ren : Go.Shelf.Ren := ⟨fun | 148 => 150 | 222 => 255 | 223 => 256 | 269 => 349 | n => n, fun | 9 => 9 | 3 => 3 | 4 => 4 | 5 => 5 | 146 => 354 | 51 => 93 | 46 => 78 | n => n, fun | n => n⟩
theorem Tryz.lays148 : Go.Proofs.Lays.n148 Tryz.prog Tryz.lays148_ren := {
 mixed := by kernel_rfl
 f148 := Tryz.func150.trans (congrArg some (by kernel_rfl))
 f222 := Tryz.func255.trans (congrArg some (by kernel_rfl))
 f223 := Tryz.func256.trans (congrArg some (by kernel_rfl))
 f269 := Tryz.func349.trans (congrArg some (by kernel_rfl))
 t3 := Tryz.underlying3
 a3 := Tryz.isAgg3
 z3 := Tryz.sizeOf3
 v3 := Tryz.zeroValue3
 t4 := Tryz.underlying4
 a4 := Tryz.isAgg4
 z4 := Tryz.sizeOf4
 v4 := Tryz.zeroValue4
 t5 := Tryz.underlying5
 a5 := Tryz.isAgg5
 z5 := Tryz.sizeOf5
 v5 := Tryz.zeroValue5
 t9 := Tryz.underlying9
 a9 := Tryz.isAgg9
 z9 := Tryz.sizeOf9
 v9 := Tryz.zeroValue9
 t46 := Tryz.underlying78
 a46 := Tryz.isAgg78
 z46 := Tryz.sizeOf78
 v46 := Tryz.zeroValue78
 t51 := Tryz.underlying93
 a51 := Tryz.isAgg93
 z51 := Tryz.sizeOf93
 v51 := Tryz.zeroValue93
 t146 := Tryz.underlying354
 a146 := Tryz.isAgg354
 z146 := Tryz.sizeOf354
 v146 := Tryz.zeroValue354 }
open Go.RowKit Go.Lib in
theorem Tryz.strings_LastIndex_one (s sub : ByteArray) (h1 : sub.size = 1) (hs : s.size < 4611686018427387904) (w : World) :
   Calls Tryz.prog 150 #[.string s, .string sub] w fun e w' => e = .returned (.int .i64 (Lib.lastIndexByte s ((sub[0]'(by omega)).toNat : Int))) ∧ w' = w := Any.strings_LastIndex_one Tryz.lays148 s sub h1 hs w
def Tryz.lays101_ren : Go.Shelf.Ren := ⟨fun | 101 => 89 | 208 => 165 | 206 => 80 | n => n, fun | 9 => 9 | 4 => 4 | 3 => 3 | n => n, fun | n => n⟩
theorem Tryz.lays101 : Go.Proofs.Lays.n101 Tryz.prog Tryz.lays101_ren := {
 mixed := by kernel_rfl
 f101 := Tryz.func89.trans (congrArg some (by kernel_rfl))
 f206 := Tryz.func80.trans (congrArg some (by kernel_rfl))
 f208 := Tryz.func165.trans (congrArg some (by kernel_rfl))
 t3 := Tryz.underlying3
 a3 := Tryz.isAgg3
 z3 := Tryz.sizeOf3
 v3 := Tryz.zeroValue3
 t4 := Tryz.underlying4
 a4 := Tryz.isAgg4
 z4 := Tryz.sizeOf4
 v4 := Tryz.zeroValue4
 t9 := Tryz.underlying9
 a9 := Tryz.isAgg9
 z9 := Tryz.sizeOf9
 v9 := Tryz.zeroValue9 }
open Go.RowKit Go.Lib in
theorem Tryz.strings_TrimPrefix (s p : ByteArray) (w : World) :
   Calls Tryz.prog 89 #[.string s, .string p] w fun e w' => e = .returned (.string ⟨(Lib.trimPrefix s.data.toList p.data.toList).toArray⟩) ∧ w' = w := Any.strings_TrimPrefix Tryz.lays101 s p w
def Tryz.lays153_ren : Go.Shelf.Ren := ⟨fun | 153 => 88 | 152 => 162 | 226 => 163 | 227 => 157 | 228 => 164 | 137 => 58 | 119 => 260 | 224 => 261 | 225 => 262 | 217 => 107 | 266 => 186 | n => n, fun | 9 => 9 | 3 => 3 | 4 => 4 | 5 => 5 | 21 => 21 | 117 => 192 | 116 => 191 | 0 => 0 | 46 => 78 | 124 => 195 | n => n, fun | n => n⟩
theorem Tryz.lays153 : Go.Proofs.Lays.n153 Tryz.prog Tryz.lays153_ren := {
 mixed := by kernel_rfl
 f119 := Tryz.func260.trans (congrArg some (by kernel_rfl))
 f137 := Tryz.func58.trans (congrArg some (by kernel_rfl))
 f152 := Tryz.func162.trans (congrArg some (by kernel_rfl))
 f153 := Tryz.func88.trans (congrArg some (by kernel_rfl))
 f217 := Tryz.func107.trans (congrArg some (by kernel_rfl))
 f224 := Tryz.func261.trans (congrArg some (by kernel_rfl))
 f225 := Tryz.func262.trans (congrArg some (by kernel_rfl))
 f226 := Tryz.func163.trans (congrArg some (by kernel_rfl))
 f227 := Tryz.func157.trans (congrArg some (by kernel_rfl))
 f228 := Tryz.func164.trans (congrArg some (by kernel_rfl))
 f266 := Tryz.func186.trans (congrArg some (by kernel_rfl))
 t0 := Tryz.underlying0
 a0 := Tryz.isAgg0
 z0 := Tryz.sizeOf0
 v0 := Tryz.zeroValue0
 t3 := Tryz.underlying3
 a3 := Tryz.isAgg3
 z3 := Tryz.sizeOf3
 v3 := Tryz.zeroValue3
 t4 := Tryz.underlying4
 a4 := Tryz.isAgg4
 z4 := Tryz.sizeOf4
 v4 := Tryz.zeroValue4
 t5 := Tryz.underlying5
 a5 := Tryz.isAgg5
 z5 := Tryz.sizeOf5
 v5 := Tryz.zeroValue5
 t9 := Tryz.underlying9
 a9 := Tryz.isAgg9
 z9 := Tryz.sizeOf9
 v9 := Tryz.zeroValue9
 t21 := Tryz.underlying21
 a21 := Tryz.isAgg21
 z21 := Tryz.sizeOf21
 v21 := Tryz.zeroValue21
 t46 := Tryz.underlying78
 a46 := Tryz.isAgg78
 z46 := Tryz.sizeOf78
 v46 := Tryz.zeroValue78
 t116 := Tryz.underlying191
 a116 := Tryz.isAgg191
 z116 := Tryz.sizeOf191
 t117 := Tryz.underlying192
 a117 := Tryz.isAgg192
 z117 := Tryz.sizeOf192
 v117 := Tryz.zeroValue192
 t124 := Tryz.underlying195
 a124 := Tryz.isAgg195
 z124 := Tryz.sizeOf195
 v124 := Tryz.zeroValue195 }
open Go.RowKit Go.Lib in
theorem Tryz.strings_IndexAny_long (hv116 : ∀ w, (zeroValue 191).run Tryz.prog w = .ok (.agg (Array.replicate 256 (.bool false))) w) (s chars : ByteArray) (w : World) (h2 : 2 ≤ chars.size) (h8 : 8 < s.size) (hs : s.size < 4294967281) (hcs : chars.size < 4294967281) (hascii : ∀ (j : Nat) b, chars.data.toList[j]? = some b → b.toNat < 128) :
   Calls Tryz.prog 88 #[.string s, .string chars] w fun e w' => e = .returned (.int .i64 (Lib.indexAny s.data.toList chars.data.toList)) ∧ w' = ((w.alloc (.cells (Lib.setCells chars.data.toList) 191)).alloc (.cells (Lib.setCells chars.data.toList) 191)) := Any.strings_IndexAny_long Tryz.lays153 hv116 (by kernel_rfl) s chars w h2 h8 hs hcs hascii
end Go.Proofs
