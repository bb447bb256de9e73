/- P2 -/
import Derived.Test.YtndlekaahjccdaaGreatDoorP0
import Derived.Shelf.Strings.OnBuilder
import Derived.Shelf.Strings.Trim
import Derived.Shelf.Small.Bits
import Derived.Shelf.Small.Wraps
import Derived.Shelf.Utf8.AppendRunePlain
import Derived.Shelf.Utf8.RuneCount
import Derived.Shelf.Strings.Shaped
import Derived.Shelf.Strings.LastIndex
import Derived.Shelf.Strings.SplitShaped
import Derived.Shelf.Strings.IndexAnyAll
import Derived.Shelf.Strings.Explode
import Derived.Shelf.Strings.Repeat
import Derived.Shelf.Unicode.DecodeLast
import Derived.Shelf.Strings.BuilderCap
import Derived.Shelf.Slices.SearchI
set_option linter.all false
set_option maxRecDepth 100000
set_option maxHeartbeats 40000000
namespace Go.Proofs
open Tryz
open Go.Shelf
def Tryz.lays156_ren:Go.Shelf.Ren:=⟨fun|156=>189|165=>280|166=>281|169=>282|240=>337|241=>338|276=>381|277=>382|n=>n,fun|31=>49|9=>9|3=>3|4=>4|0=>0|20=>20|72=>307|76=>311|70=>305|37=>94|75=>310|127=>352|164=>387|5=>5|80=>158|n=>n,fun|n=>n⟩
theorem Tryz.lays156:Go.Proofs.Lays.n156 prog Tryz.lays156_ren:={
 mixed:=by kernel_rfl
 f156:=Tryz.func189.trans (congrArg some (by kernel_rfl))
 f165:=Tryz.func280.trans (congrArg some (by kernel_rfl))
 f166:=Tryz.func281.trans (congrArg some (by kernel_rfl))
 f169:=Tryz.func282.trans (congrArg some (by kernel_rfl))
 f240:=Tryz.func337.trans (congrArg some (by kernel_rfl))
 f241:=Tryz.func338.trans (congrArg some (by kernel_rfl))
 f276:=Tryz.func381.trans (congrArg some (by kernel_rfl))
 f277:=Tryz.func382.trans (congrArg some (by kernel_rfl))
 t0:=underlying0
 a0:=isAgg0
 z0:=sizeOf0
 v0:=zeroValue0
 t3:=underlying3
 a3:=isAgg3
 z3:=sizeOf3
 v3:=zeroValue3
 t4:=underlying4
 a4:=isAgg4
 z4:=sizeOf4
 v4:=zeroValue4
 t9:=underlying9
 a9:=isAgg9
 z9:=sizeOf9
 v9:=zeroValue9
 t20:=underlying20
 a20:=isAgg20
 z20:=sizeOf20
 v20:=zeroValue20
 t31:=underlying49
 a31:=isAgg49
 z31:=sizeOf49
 v31:=zeroValue49
 t37:=underlying94
 a37:=isAgg94
 z37:=sizeOf94
 v37:=zeroValue94
 t70:=underlying305
 a70:=isAgg305
 z70:=sizeOf305
 v70:=zeroValue305
 t72:=underlying307
 a72:=isAgg307
 z72:=sizeOf307
 v72:=zeroValue307
 t75:=underlying310
 a75:=isAgg310
 z75:=sizeOf310
 v75:=zeroValue310
 t76:=underlying311
 a76:=isAgg311
 z76:=sizeOf311
 v76:=zeroValue311
 t127:=underlying352
 a127:=isAgg352
 z127:=sizeOf352
 v127:=zeroValue352
 t164:=underlying387
 a164:=isAgg387
 z164:=sizeOf387
 v164:=zeroValue387 }
theorem Tryz.Builder_Extra_156:Builder.Extra prog Tryz.lays156_ren:={
 sizeBuilder:=by kernel_rfl
 liesBuilder:=by kernel_rfl
 t5:=underlying5
 a5:=isAgg5
 z5:=sizeOf5
 v5:=zeroValue5
 infoByte:=by kernel_rfl
 cellsByte:=by kernel_rfl
 sizeByte:=by kernel_rfl
 neB5:=by decide }
open Go.RowKit in
theorem Tryz.strings_Join(bk o c:Nat)(xs:List ByteArray)(sep:ByteArray)(w:World)(hcells:∀(j:Nat) x,xs[j]?=some x->w.cell? ⟨bk,o+j,none⟩=some (.string x))(hbk:bk<w.heap.size)(hN:xs.length<=140737488355328)(hcap:xs.length<=c)(hlen:(Lib.join (xs.map (·.data.toList)) sep.data.toList).length<=140737488355328):
 Calls prog 189 #[.slice (some ⟨bk,o,none⟩) xs.length c,.string sep] w fun e w'=>e=.returned (.string ⟨(Lib.join (xs.map (·.data.toList)) sep.data.toList).toArray⟩)/\Below w.heap.size w w':=Any.strings_Join Tryz.lays156 Tryz.Builder_Extra_156 bk o c xs sep w hcells hbk hN hcap hlen
def Tryz.lays118_ren:Go.Shelf.Ren:=⟨fun|118=>291|n=>n,fun|21=>21|3=>3|4=>4|n=>n,fun|n=>n⟩
theorem Tryz.lays118:Go.Proofs.Lays.n118 prog Tryz.lays118_ren:={
 mixed:=by kernel_rfl
 f118:=Tryz.func291.trans (congrArg some (by kernel_rfl))
 t3:=underlying3
 a3:=isAgg3
 z3:=sizeOf3
 v3:=zeroValue3
 t4:=underlying4
 a4:=isAgg4
 z4:=sizeOf4
 v4:=zeroValue4
 t21:=underlying21
 a21:=isAgg21
 z21:=sizeOf21
 v21:=zeroValue21 }
theorem Tryz.utf8_RuneLen(r:Int)(w:World):
 Calls prog 291 #[.int .i32 r] w fun e w'=>e=.returned (.int .i64 (Lib.runeLen r))/\w'=w:=Any.utf8_RuneLen Tryz.lays118 r w
def Tryz.lays137_ren:Go.Shelf.Ren:=⟨fun|137=>286|217=>339|266=>383|n=>n,fun|9=>9|5=>5|3=>3|n=>n,fun|n=>n⟩
theorem Tryz.lays137:Go.Proofs.Lays.n137 prog Tryz.lays137_ren:={
 mixed:=by kernel_rfl
 f137:=Tryz.func286.trans (congrArg some (by kernel_rfl))
 f217:=Tryz.func339.trans (congrArg some (by kernel_rfl))
 f266:=Tryz.func383.trans (congrArg some (by kernel_rfl))
 t3:=underlying3
 a3:=isAgg3
 z3:=sizeOf3
 v3:=zeroValue3
 t5:=underlying5
 a5:=isAgg5
 z5:=sizeOf5
 v5:=zeroValue5
 t9:=underlying9
 a9:=isAgg9
 z9:=sizeOf9
 v9:=zeroValue9 }
open Go.RowKit in
theorem Tryz.strings_IndexByte(s:ByteArray)(c:Int)(w:World):
 Calls prog 286 #[.string s,.int .u8 c] w fun e w'=>e=.returned (.int .i64 (Lib.indexByte s.data.toList c.toNat.toUInt8))/\w'=w:=Any.strings_IndexByte Tryz.lays137 s c w
def Tryz.lays242_ren:Go.Shelf.Ren:=⟨fun|242=>205|278=>289|n=>n,fun|37=>94|21=>21|51=>72|4=>4|5=>5|46=>224|n=>n,fun|n=>n⟩
theorem Tryz.lays242:Go.Proofs.Lays.n242 prog Tryz.lays242_ren:={
 mixed:=by kernel_rfl
 f242:=Tryz.func205.trans (congrArg some (by kernel_rfl))
 f278:=Tryz.func289.trans (congrArg some (by kernel_rfl))
 t4:=underlying4
 a4:=isAgg4
 z4:=sizeOf4
 v4:=zeroValue4
 t5:=underlying5
 a5:=isAgg5
 z5:=sizeOf5
 v5:=zeroValue5
 t21:=underlying21
 a21:=isAgg21
 z21:=sizeOf21
 v21:=zeroValue21
 t37:=underlying94
 a37:=isAgg94
 z37:=sizeOf94
 v37:=zeroValue94
 t46:=underlying224
 a46:=isAgg224
 z46:=sizeOf224
 v46:=zeroValue224
 t51:=underlying72
 a51:=isAgg72
 z51:=sizeOf72
 v51:=zeroValue72 }
open Go.RowKit in
theorem Tryz.utf8_AppendRune_plain(B:Nat)(v:Value)(n:Nat)(xs:List Value)(r:Int)(hr0 : -2147483648<=r)(hr1:r<=2147483647)(w:World)(hown:w.ownsRow B 5 1 v n xs)(hlen:n+4<=140737488355328)(hBw:B<=w.heap.size):
 Calls prog 205 #[v,.int .i32 r] w fun e w'=>∃v',e=.returned v'/\w'.ownsRow B 5 1 v' (n+(Lib.runeCells r).length) (xs++Lib.runeCells r)/\∃o,(w.alloc o).grownBy w' v.ownBlock:=Any.utf8_AppendRune_plain Tryz.lays242 (by kernel_rfl) B v n xs r hr0 hr1 w hown hlen hBw
def Tryz.lays143_ren:Go.Shelf.Ren:=⟨fun|143=>370|219=>399|217=>339|225=>327|224=>326|267=>409|266=>383|314=>415|n=>n,fun|9=>9|3=>3|4=>4|5=>5|46=>224|146=>374|51=>72|n=>n,fun|1=>3|n=>n⟩
theorem Tryz.lays143:Go.Proofs.Lays.n143 prog Tryz.lays143_ren:={
 mixed:=by kernel_rfl
 f143:=Tryz.func370.trans (congrArg some (by kernel_rfl))
 f217:=Tryz.func339.trans (congrArg some (by kernel_rfl))
 f219:=Tryz.func399.trans (congrArg some (by kernel_rfl))
 f224:=Tryz.func326.trans (congrArg some (by kernel_rfl))
 f225:=Tryz.func327.trans (congrArg some (by kernel_rfl))
 f266:=Tryz.func383.trans (congrArg some (by kernel_rfl))
 f267:=Tryz.func409.trans (congrArg some (by kernel_rfl))
 f314:=Tryz.func415.trans (congrArg some (by kernel_rfl))
 t3:=underlying3
 a3:=isAgg3
 z3:=sizeOf3
 v3:=zeroValue3
 t4:=underlying4
 a4:=isAgg4
 z4:=sizeOf4
 v4:=zeroValue4
 t5:=underlying5
 a5:=isAgg5
 z5:=sizeOf5
 v5:=zeroValue5
 t9:=underlying9
 a9:=isAgg9
 z9:=sizeOf9
 v9:=zeroValue9
 t46:=underlying224
 a46:=isAgg224
 z46:=sizeOf224
 v46:=zeroValue224
 t51:=underlying72
 a51:=isAgg72
 z51:=sizeOf72
 v51:=zeroValue72
 t146:=underlying374
 a146:=isAgg374
 z146:=sizeOf374
 v146:=zeroValue374
 g1:=by kernel_rfl }
open Go.RowKit Go.Lib in
theorem Tryz.strings_Index(s sub:ByteArray)(m:Int)(w:World)(hs:s.size<4294967281)(hm:w.cell? ⟨3,0,none⟩=some (.int .i64 m)):
 Calls prog 370 #[.string s,.string sub] w fun e w'=>e=.returned (.int .i64 (Lib.index s.data.toList sub.data.toList))/\w'=w:=Any.strings_Index Tryz.lays143 s sub m w hs hm
def Tryz.lays197_ren:Go.Shelf.Ren:=⟨fun|197=>322|260=>374|n=>n,fun|9=>9|21=>21|3=>3|4=>4|5=>5|105=>47|119=>314|0=>0|46=>224|139=>317|138=>316|n=>n,fun|3=>1|4=>2|n=>n⟩
theorem Tryz.lays197:Go.Proofs.Lays.n197 prog Tryz.lays197_ren:={
 mixed:=by kernel_rfl
 f197:=Tryz.func322.trans (congrArg some (by kernel_rfl))
 f260:=Tryz.func374.trans (congrArg some (by kernel_rfl))
 t0:=underlying0
 a0:=isAgg0
 z0:=sizeOf0
 v0:=zeroValue0
 t3:=underlying3
 a3:=isAgg3
 z3:=sizeOf3
 v3:=zeroValue3
 t4:=underlying4
 a4:=isAgg4
 z4:=sizeOf4
 v4:=zeroValue4
 t5:=underlying5
 a5:=isAgg5
 z5:=sizeOf5
 v5:=zeroValue5
 t9:=underlying9
 a9:=isAgg9
 z9:=sizeOf9
 v9:=zeroValue9
 t21:=underlying21
 a21:=isAgg21
 z21:=sizeOf21
 v21:=zeroValue21
 t46:=underlying224
 a46:=isAgg224
 z46:=sizeOf224
 v46:=zeroValue224
 t105:=underlying47
 a105:=isAgg47
 z105:=sizeOf47
 v105:=zeroValue47
 t119:=underlying314
 a119:=isAgg314
 z119:=sizeOf314
 t138:=underlying316
 a138:=isAgg316
 z138:=sizeOf316
 v138:=zeroValue316
 t139:=underlying317
 a139:=isAgg317
 z139:=sizeOf317
 v139:=zeroValue317
 g3:=by kernel_rfl
 g4:=by kernel_rfl }
def Tryz.lays152_ren:Go.Shelf.Ren:=⟨fun|152=>264|137=>286|119=>325|224=>326|225=>327|217=>339|266=>383|n=>n,fun|9=>9|21=>21|3=>3|4=>4|5=>5|0=>0|46=>224|n=>n,fun|n=>n⟩
theorem Tryz.lays152:Go.Proofs.Lays.n152 prog Tryz.lays152_ren:={
 mixed:=by kernel_rfl
 f119:=Tryz.func325.trans (congrArg some (by kernel_rfl))
 f137:=Tryz.func286.trans (congrArg some (by kernel_rfl))
 f152:=Tryz.func264.trans (congrArg some (by kernel_rfl))
 f217:=Tryz.func339.trans (congrArg some (by kernel_rfl))
 f224:=Tryz.func326.trans (congrArg some (by kernel_rfl))
 f225:=Tryz.func327.trans (congrArg some (by kernel_rfl))
 f266:=Tryz.func383.trans (congrArg some (by kernel_rfl))
 t0:=underlying0
 a0:=isAgg0
 z0:=sizeOf0
 v0:=zeroValue0
 t3:=underlying3
 a3:=isAgg3
 z3:=sizeOf3
 v3:=zeroValue3
 t4:=underlying4
 a4:=isAgg4
 z4:=sizeOf4
 v4:=zeroValue4
 t5:=underlying5
 a5:=isAgg5
 z5:=sizeOf5
 v5:=zeroValue5
 t9:=underlying9
 a9:=isAgg9
 z9:=sizeOf9
 v9:=zeroValue9
 t21:=underlying21
 a21:=isAgg21
 z21:=sizeOf21
 v21:=zeroValue21
 t46:=underlying224
 a46:=isAgg224
 z46:=sizeOf224
 v46:=zeroValue224 }
open Go.RowKit Go.Lib in
theorem Tryz.strings_IndexRune_ascii(s:ByteArray)(r:Int)(w:World)(h0:0<=r)(h1:r<128):
 Calls prog 264 #[.string s,.int .i32 r] w fun e w'=>e=.returned (.int .i64 (Lib.indexByte s.data.toList r.toNat.toUInt8))/\w'=w:=Any.strings_IndexRune_ascii Tryz.lays152 s r w h0 h1
open Go.RowKit Go.Lib in
theorem Tryz.utf8_DecodeRuneInString(s:ByteArray)(w:World)(hT:Lib.Utf8Tabs 1 2 w):
 Calls prog 322 #[.string s] w fun e w'=>e=.returned (.tuple #[.int .i32 (Lib.decodeGo s).1,.int .i64 (Lib.decodeGo s).2])/\Below w.heap.size w w':=Any.utf8_DecodeRuneInString Tryz.lays197 s w hT
