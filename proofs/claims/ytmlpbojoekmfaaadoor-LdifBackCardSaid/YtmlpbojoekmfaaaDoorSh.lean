import Derived.Shelf.Strings.Builder1
import Derived.Shelf.Strings.Builder2
import Derived.Shelf.Strings.OnBuilder
import Derived.Shelf.Strings.Trim
import Derived.Shelf.Small.Utf8
import Derived.Shelf.Small.Strs
import Derived.Shelf.Small.Wraps
import Derived.Shelf.Strings.BuilderF
import Derived.Shelf.Strings.BuilderK
import Derived.Shelf.Utf8.RuneCount
import Derived.Shelf.Strings.Builder2Cap
import Derived.Shelf.Strings.Search1
import Derived.Shelf.Strings.Search2
import Derived.Shelf.Strings.Search3
import Derived.Shelf.Strings.Cut
import Derived.Shelf.Strings.Count
import Derived.Shelf.LaysM
import Derived.Shelf.Strings.Shaped
import Derived.Shelf.Strings.Prefix
import Derived.Shelf.Strings.Split
import Derived.Shelf.Strings.SplitShaped
import Derived.Shelf.Unicode.Decode
import Derived.Shelf.Strings.Runes
import Derived.Shelf.Strings.RuneCount
import Derived.Shelf.Strings.AsciiSet
import Derived.Shelf.Strings.Explode
import Derived.Shelf.Unicode.DecodeSlow
import Derived.Shelf.Unicode.DecodeAny
import Derived.Shelf.Unicode.DecodeLast
import Derived.Shelf.Strings.BuilderCap
import Derived.Shelf.Slices.Turned
import Derived.Test.YtmlpbojoekmfaaaDoorProg
set_option linter.unusedSimpArgs false
set_option linter.unusedVariables false
namespace Go.Proofs
open Go.Shelf
def Tryd.lays170_ren:Go.Shelf.Ren:=⟨fun|170=>57|n=>n,fun|70=>79|3=>3|0=>0|72=>81|37=>70|5=>5|n=>n,fun|n=>n⟩
theorem Tryd.lays170:Go.Proofs.Lays.n170 Tryd.prog Tryd.lays170_ren:= {
 mixed:=by kernel_rfl
 f170:=Tryd.func57.trans (congrArg some (by kernel_rfl))
 t0:=Tryd.underlying0
 a0:=Tryd.isAgg0
 z0:=Tryd.sizeOf0
 v0:=Tryd.zeroValue0
 t3:=Tryd.underlying3
 a3:=Tryd.isAgg3
 z3:=Tryd.sizeOf3
 v3:=Tryd.zeroValue3
 t37:=Tryd.underlying70
 a37:=Tryd.isAgg70
 z37:=Tryd.sizeOf70
 v37:=Tryd.zeroValue70
 t70:=Tryd.underlying79
 a70:=Tryd.isAgg79
 z70:=Tryd.sizeOf79
 v70:=Tryd.zeroValue79
 t72:=Tryd.underlying81
 a72:=Tryd.isAgg81
 z72:=Tryd.sizeOf81
 v72:=Tryd.zeroValue81}
open Go.RowKit in
theorem Tryd.Builder_Len (B b:Nat) (bs:List Value) (w:World) (h:Lib.IsBuilder 81 5 B b bs w):
 Calls Tryd.prog 57 #[.pointer (some ⟨b,0,none⟩)] w fun e w'=>e= .returned (.int .i64 bs.length)∧w'=w:=Any.Builder_Len Tryd.lays170 B b bs w h
def Tryd.lays169_ren:Go.Shelf.Ren:=⟨fun|169=>53|n=>n,fun|70=>79|9=>9|0=>0|72=>81|37=>70|127=>103|3=>3|5=>5|n=>n,fun|n=>n⟩
theorem Tryd.lays169:Go.Proofs.Lays.n169 Tryd.prog Tryd.lays169_ren:= {
 mixed:=by kernel_rfl
 f169:=Tryd.func53.trans (congrArg some (by kernel_rfl))
 t0:=Tryd.underlying0
 a0:=Tryd.isAgg0
 z0:=Tryd.sizeOf0
 v0:=Tryd.zeroValue0
 t3:=Tryd.underlying3
 a3:=Tryd.isAgg3
 z3:=Tryd.sizeOf3
 v3:=Tryd.zeroValue3
 t9:=Tryd.underlying9
 a9:=Tryd.isAgg9
 z9:=Tryd.sizeOf9
 v9:=Tryd.zeroValue9
 t37:=Tryd.underlying70
 a37:=Tryd.isAgg70
 z37:=Tryd.sizeOf70
 v37:=Tryd.zeroValue70
 t70:=Tryd.underlying79
 a70:=Tryd.isAgg79
 z70:=Tryd.sizeOf79
 v70:=Tryd.zeroValue79
 t72:=Tryd.underlying81
 a72:=Tryd.isAgg81
 z72:=Tryd.sizeOf81
 v72:=Tryd.zeroValue81
 t127:=Tryd.underlying103
 a127:=Tryd.isAgg103
 z127:=Tryd.sizeOf103
 v127:=Tryd.zeroValue103}
theorem Tryd.Builder_Extra_169:Builder.Extra Tryd.prog Tryd.lays169_ren:= {
 sizeBuilder:=by kernel_rfl
 liesBuilder:=by kernel_rfl
 t5:=Tryd.underlying5
 a5:=Tryd.isAgg5
 z5:=Tryd.sizeOf5
 v5:=Tryd.zeroValue5
 infoByte:=by kernel_rfl
 cellsByte:=by kernel_rfl
 sizeByte:=by kernel_rfl
 neB5:=by decide}
open Go.RowKit in
theorem Tryd.Builder_String_any (B b:Nat) (l:List UInt8) (w:World) (h:Lib.IsBuilder 81 5 B b (Lib.byteCells l) w) (hBw:B≤w.heap.size):
 Calls Tryd.prog 53 #[.pointer (some ⟨b,0,none⟩)] w fun e w'=>e= .returned (.string ⟨l.toArray⟩)∧Below B w w':=Any.Builder_String_any Tryd.lays169 Tryd.Builder_Extra_169 B b l w h hBw
def Tryd.lays156_ren:Go.Shelf.Ren:=⟨fun|156=>30|165=>51|166=>52|169=>53|240=>74|241=>75|276=>96|277=>97|n=>n,fun|31=>23|9=>9|3=>3|4=>4|0=>0|20=>20|72=>81|76=>85|70=>79|37=>70|75=>84|127=>103|164=>120|5=>5|80=>87|n=>n,fun|n=>n⟩
theorem Tryd.lays156:Go.Proofs.Lays.n156 Tryd.prog Tryd.lays156_ren:= {
 mixed:=by kernel_rfl
 f156:=Tryd.func30.trans (congrArg some (by kernel_rfl))
 f165:=Tryd.func51.trans (congrArg some (by kernel_rfl))
 f166:=Tryd.func52.trans (congrArg some (by kernel_rfl))
 f169:=Tryd.func53.trans (congrArg some (by kernel_rfl))
 f240:=Tryd.func74.trans (congrArg some (by kernel_rfl))
 f241:=Tryd.func75.trans (congrArg some (by kernel_rfl))
 f276:=Tryd.func96.trans (congrArg some (by kernel_rfl))
 f277:=Tryd.func97.trans (congrArg some (by kernel_rfl))
 t0:=Tryd.underlying0
 a0:=Tryd.isAgg0
 z0:=Tryd.sizeOf0
 v0:=Tryd.zeroValue0
 t3:=Tryd.underlying3
 a3:=Tryd.isAgg3
 z3:=Tryd.sizeOf3
 v3:=Tryd.zeroValue3
 t4:=Tryd.underlying4
 a4:=Tryd.isAgg4
 z4:=Tryd.sizeOf4
 v4:=Tryd.zeroValue4
 t9:=Tryd.underlying9
 a9:=Tryd.isAgg9
 z9:=Tryd.sizeOf9
 v9:=Tryd.zeroValue9
 t20:=Tryd.underlying20
 a20:=Tryd.isAgg20
 z20:=Tryd.sizeOf20
 v20:=Tryd.zeroValue20
 t31:=Tryd.underlying23
 a31:=Tryd.isAgg23
 z31:=Tryd.sizeOf23
 v31:=Tryd.zeroValue23
 t37:=Tryd.underlying70
 a37:=Tryd.isAgg70
 z37:=Tryd.sizeOf70
 v37:=Tryd.zeroValue70
 t70:=Tryd.underlying79
 a70:=Tryd.isAgg79
 z70:=Tryd.sizeOf79
 v70:=Tryd.zeroValue79
 t72:=Tryd.underlying81
 a72:=Tryd.isAgg81
 z72:=Tryd.sizeOf81
 v72:=Tryd.zeroValue81
 t75:=Tryd.underlying84
 a75:=Tryd.isAgg84
 z75:=Tryd.sizeOf84
 v75:=Tryd.zeroValue84
 t76:=Tryd.underlying85
 a76:=Tryd.isAgg85
 z76:=Tryd.sizeOf85
 v76:=Tryd.zeroValue85
 t127:=Tryd.underlying103
 a127:=Tryd.isAgg103
 z127:=Tryd.sizeOf103
 v127:=Tryd.zeroValue103
 t164:=Tryd.underlying120
 a164:=Tryd.isAgg120
 z164:=Tryd.sizeOf120
 v164:=Tryd.zeroValue120}
theorem Tryd.Builder_Extra_156:Builder.Extra Tryd.prog Tryd.lays156_ren:= {
 sizeBuilder:=by kernel_rfl
 liesBuilder:=by kernel_rfl
 t5:=Tryd.underlying5
 a5:=Tryd.isAgg5
 z5:=Tryd.sizeOf5
 v5:=Tryd.zeroValue5
 infoByte:=by kernel_rfl
 cellsByte:=by kernel_rfl
 sizeByte:=by kernel_rfl
 neB5:=by decide}
open Go.RowKit in
theorem Tryd.strings_Join_none (a:Option Addr) (c:Nat) (sep:ByteArray) (w:World):
 Calls Tryd.prog 30 #[.slice a 0 c,.string sep] w fun e w'=>e= .returned (.string ⟨#[]⟩)∧w'=w:=Any.strings_Join_none Tryd.lays156 Tryd.Builder_Extra_156 a c sep w
open Go.RowKit in
theorem Tryd.strings_Join (bk o c:Nat) (xs:List ByteArray) (sep:ByteArray) (w:World) (hcells: ∀(j:Nat) x,xs[j]? =some x→w.cell? ⟨bk,o+j,none⟩=some (.string x)) (hbk:bk<w.heap.size) (hN:xs.length≤140737488355328) (hcap:xs.length≤c) (hlen:(Lib.join (xs.map (·.data.toList)) sep.data.toList).length≤140737488355328):
 Calls Tryd.prog 30 #[.slice (some ⟨bk,o,none⟩) xs.length c,.string sep] w fun e w'=>e= .returned (.string ⟨(Lib.join (xs.map (·.data.toList)) sep.data.toList).toArray⟩)∧Below w.heap.size w w':=Any.strings_Join Tryd.lays156 Tryd.Builder_Extra_156 bk o c xs sep w hcells hbk hN hcap hlen
def Tryd.lays162_ren:Go.Shelf.Ren:=⟨fun|162=>85|232=>77|227=>78|234=>80|236=>82|228=>98|271=>101|151=>100|120=>115|197=>99|152=>114|260=>113|137=>122|119=>123|224=>104|225=>103|217=>102|266=>116|n=>n,fun|9=>9|4=>4|3=>3|5=>5|117=>107|116=>106|0=>0|124=>110|21=>21|105=>123|46=>89|119=>137|139=>140|138=>139|n=>n,fun|3=>1|4=>2|n=>n⟩
theorem Tryd.lays162:Go.Proofs.Lays.n162 Tryd.prog Tryd.lays162_ren:= {
 mixed:=by kernel_rfl
 f119:=Tryd.func123.trans (congrArg some (by kernel_rfl))
 f120:=Tryd.func115.trans (congrArg some (by kernel_rfl))
 f137:=Tryd.func122.trans (congrArg some (by kernel_rfl))
 f151:=Tryd.func100.trans (congrArg some (by kernel_rfl))
 f152:=Tryd.func114.trans (congrArg some (by kernel_rfl))
 f162:=Tryd.func85.trans (congrArg some (by kernel_rfl))
 f197:=Tryd.func99.trans (congrArg some (by kernel_rfl))
 f217:=Tryd.func102.trans (congrArg some (by kernel_rfl))
 f224:=Tryd.func104.trans (congrArg some (by kernel_rfl))
 f225:=Tryd.func103.trans (congrArg some (by kernel_rfl))
 f227:=Tryd.func78.trans (congrArg some (by kernel_rfl))
 f228:=Tryd.func98.trans (congrArg some (by kernel_rfl))
 f232:=Tryd.func77.trans (congrArg some (by kernel_rfl))
 f234:=Tryd.func80.trans (congrArg some (by kernel_rfl))
 f236:=Tryd.func82.trans (congrArg some (by kernel_rfl))
 f260:=Tryd.func113.trans (congrArg some (by kernel_rfl))
 f266:=Tryd.func116.trans (congrArg some (by kernel_rfl))
 f271:=Tryd.func101.trans (congrArg some (by kernel_rfl))
 t0:=Tryd.underlying0
 a0:=Tryd.isAgg0
 z0:=Tryd.sizeOf0
 v0:=Tryd.zeroValue0
 t3:=Tryd.underlying3
 a3:=Tryd.isAgg3
 z3:=Tryd.sizeOf3
 v3:=Tryd.zeroValue3
 t4:=Tryd.underlying4
 a4:=Tryd.isAgg4
 z4:=Tryd.sizeOf4
 v4:=Tryd.zeroValue4
 t5:=Tryd.underlying5
 a5:=Tryd.isAgg5
 z5:=Tryd.sizeOf5
 v5:=Tryd.zeroValue5
 t9:=Tryd.underlying9
 a9:=Tryd.isAgg9
 z9:=Tryd.sizeOf9
 v9:=Tryd.zeroValue9
 t21:=Tryd.underlying21
 a21:=Tryd.isAgg21
 z21:=Tryd.sizeOf21
 v21:=Tryd.zeroValue21
 t46:=Tryd.underlying89
 a46:=Tryd.isAgg89
 z46:=Tryd.sizeOf89
 v46:=Tryd.zeroValue89
 t105:=Tryd.underlying123
 a105:=Tryd.isAgg123
 z105:=Tryd.sizeOf123
 v105:=Tryd.zeroValue123
 t116:=Tryd.underlying106
 a116:=Tryd.isAgg106
 z116:=Tryd.sizeOf106
 t117:=Tryd.underlying107
 a117:=Tryd.isAgg107
 z117:=Tryd.sizeOf107
 v117:=Tryd.zeroValue107
 t119:=Tryd.underlying137
 a119:=Tryd.isAgg137
 z119:=Tryd.sizeOf137
 t124:=Tryd.underlying110
 a124:=Tryd.isAgg110
 z124:=Tryd.sizeOf110
 v124:=Tryd.zeroValue110
 t138:=Tryd.underlying139
 a138:=Tryd.isAgg139
 z138:=Tryd.sizeOf139
 v138:=Tryd.zeroValue139
 t139:=Tryd.underlying140
 a139:=Tryd.isAgg140
 z139:=Tryd.sizeOf140
 v139:=Tryd.zeroValue140
 g3:=by kernel_rfl
 g4:=by kernel_rfl}
open Go.RowKit in
theorem Tryd.strings_TrimRight_one (s:ByteArray) (c:UInt8) (hc:c.toNat<128) (w:World) (hs:s.size≤9223372036854775807):
 Calls Tryd.prog 85 #[.string s,.string ⟨#[c]⟩] w fun e w'=>e= .returned (.string ⟨(Lib.trimRightB s.data.toList c).toArray⟩)∧w'=w:=Any.strings_TrimRight_one Tryd.lays162 s c hc w hs
def Tryd.lays104_ren:Go.Shelf.Ren:=⟨fun|104=>61|211=>87|207=>106|n=>n,fun|9=>9|4=>4|24=>94|3=>3|n=>n,fun|n=>n⟩
theorem Tryd.lays104:Go.Proofs.Lays.n104 Tryd.prog Tryd.lays104_ren:= {
 mixed:=by kernel_rfl
 f104:=Tryd.func61.trans (congrArg some (by kernel_rfl))
 f207:=Tryd.func106.trans (congrArg some (by kernel_rfl))
 f211:=Tryd.func87.trans (congrArg some (by kernel_rfl))
 t3:=Tryd.underlying3
 a3:=Tryd.isAgg3
 z3:=Tryd.sizeOf3
 v3:=Tryd.zeroValue3
 t4:=Tryd.underlying4
 a4:=Tryd.isAgg4
 z4:=Tryd.sizeOf4
 v4:=Tryd.zeroValue4
 t9:=Tryd.underlying9
 a9:=Tryd.isAgg9
 z9:=Tryd.sizeOf9
 v9:=Tryd.zeroValue9
 t24:=Tryd.underlying94
 a24:=Tryd.isAgg94
 z24:=Tryd.sizeOf94
 v24:=Tryd.zeroValue94}
open Go.RowKit in
theorem Tryd.strings_CutSuffix (s p:ByteArray) (w:World) (hs:s.size≤9223372036854775807):
 Calls Tryd.prog 61 #[.string s,.string p] w fun e w'=>e= .returned (.tuple #[.string ⟨(Lib.trimSuffix s.data.toList p.data.toList).toArray⟩,.bool (Lib.hasSuffix s.data.toList p.data.toList)])∧w'=w:=Any.strings_CutSuffix Tryd.lays104 s p w hs
def Tryd.lays145_ren:Go.Shelf.Ren:=⟨fun|145=>36|220=>58|219=>84|217=>102|225=>103|224=>104|267=>105|266=>116|314=>117|n=>n,fun|9=>9|4=>4|59=>64|3=>3|5=>5|46=>89|146=>132|51=>131|n=>n,fun|1=>0|n=>n⟩
theorem Tryd.lays145:Go.Proofs.Lays.n145 Tryd.prog Tryd.lays145_ren:= {
 mixed:=by kernel_rfl
 f145:=Tryd.func36.trans (congrArg some (by kernel_rfl))
 f217:=Tryd.func102.trans (congrArg some (by kernel_rfl))
 f219:=Tryd.func84.trans (congrArg some (by kernel_rfl))
 f220:=Tryd.func58.trans (congrArg some (by kernel_rfl))
 f224:=Tryd.func104.trans (congrArg some (by kernel_rfl))
 f225:=Tryd.func103.trans (congrArg some (by kernel_rfl))
 f266:=Tryd.func116.trans (congrArg some (by kernel_rfl))
 f267:=Tryd.func105.trans (congrArg some (by kernel_rfl))
 f314:=Tryd.func117.trans (congrArg some (by kernel_rfl))
 t3:=Tryd.underlying3
 a3:=Tryd.isAgg3
 z3:=Tryd.sizeOf3
 v3:=Tryd.zeroValue3
 t4:=Tryd.underlying4
 a4:=Tryd.isAgg4
 z4:=Tryd.sizeOf4
 v4:=Tryd.zeroValue4
 t5:=Tryd.underlying5
 a5:=Tryd.isAgg5
 z5:=Tryd.sizeOf5
 v5:=Tryd.zeroValue5
 t9:=Tryd.underlying9
 a9:=Tryd.isAgg9
 z9:=Tryd.sizeOf9
 v9:=Tryd.zeroValue9
 t46:=Tryd.underlying89
 a46:=Tryd.isAgg89
 z46:=Tryd.sizeOf89
 v46:=Tryd.zeroValue89
 t51:=Tryd.underlying131
 a51:=Tryd.isAgg131
 z51:=Tryd.sizeOf131
 v51:=Tryd.zeroValue131
 t59:=Tryd.underlying64
 a59:=Tryd.isAgg64
 z59:=Tryd.sizeOf64
 v59:=Tryd.zeroValue64
 t146:=Tryd.underlying132
 a146:=Tryd.isAgg132
 z146:=Tryd.sizeOf132
 v146:=Tryd.zeroValue132
 g1:=by kernel_rfl}
open Go.RowKit Go.Lib in
theorem Tryd.strings_Cut (s sep:ByteArray) (m:Int) (w:World) (hs:s.size<4294967281) (hm:w.cell? ⟨0,0,none⟩=some (.int .i64 m)):
 Calls Tryd.prog 36 #[.string s,.string sep] w fun e w'=>e= .returned (.tuple #[.string ⟨(Lib.cut s.data.toList sep.data.toList).1.toArray⟩,.string ⟨(Lib.cut s.data.toList sep.data.toList).2.1.toArray⟩,.bool (Lib.cut s.data.toList sep.data.toList).2.2])∧ ∃n,w'=w.drewN n:=Any.strings_Cut Tryd.lays145 s sep m w hs hm
def Tryd.lays99_ren:Go.Shelf.Ren:=⟨fun|99=>55|206=>83|n=>n,fun|9=>9|4=>4|3=>3|n=>n,fun|n=>n⟩
theorem Tryd.lays99:Go.Proofs.Lays.n99 Tryd.prog Tryd.lays99_ren:= {
 mixed:=by kernel_rfl
 f99:=Tryd.func55.trans (congrArg some (by kernel_rfl))
 f206:=Tryd.func83.trans (congrArg some (by kernel_rfl))
 t3:=Tryd.underlying3
 a3:=Tryd.isAgg3
 z3:=Tryd.sizeOf3
 v3:=Tryd.zeroValue3
 t4:=Tryd.underlying4
 a4:=Tryd.isAgg4
 z4:=Tryd.sizeOf4
 v4:=Tryd.zeroValue4
 t9:=Tryd.underlying9
 a9:=Tryd.isAgg9
 z9:=Tryd.sizeOf9
 v9:=Tryd.zeroValue9}
open Go.RowKit Go.Lib in
theorem Tryd.strings_HasPrefix (s p:ByteArray) (w:World):
 Calls Tryd.prog 55 #[.string s,.string p] w fun e w'=>e= .returned (.bool (Lib.hasPrefix s.data.toList p.data.toList))∧w'=w:=Any.strings_HasPrefix Tryd.lays99 s p w
def Tryd.lays146_ren:Go.Shelf.Ren:=⟨fun|146=>63|221=>88|268=>107|138=>108|143=>109|195=>118|197=>99|218=>119|219=>84|260=>113|217=>102|225=>103|224=>104|267=>105|266=>116|314=>117|n=>n,fun|9=>9|31=>23|3=>3|4=>4|0=>0|105=>123|21=>21|5=>5|46=>89|119=>137|139=>140|138=>139|146=>132|51=>131|n=>n,fun|1=>0|3=>1|4=>2|n=>n⟩
theorem Tryd.lays146:Go.Proofs.Lays.n146 Tryd.prog Tryd.lays146_ren:= {
 mixed:=by kernel_rfl
 f138:=Tryd.func108.trans (congrArg some (by kernel_rfl))
 f143:=Tryd.func109.trans (congrArg some (by kernel_rfl))
 f146:=Tryd.func63.trans (congrArg some (by kernel_rfl))
 f195:=Tryd.func118.trans (congrArg some (by kernel_rfl))
 f197:=Tryd.func99.trans (congrArg some (by kernel_rfl))
 f217:=Tryd.func102.trans (congrArg some (by kernel_rfl))
 f218:=Tryd.func119.trans (congrArg some (by kernel_rfl))
 f219:=Tryd.func84.trans (congrArg some (by kernel_rfl))
 f221:=Tryd.func88.trans (congrArg some (by kernel_rfl))
 f224:=Tryd.func104.trans (congrArg some (by kernel_rfl))
 f225:=Tryd.func103.trans (congrArg some (by kernel_rfl))
 f260:=Tryd.func113.trans (congrArg some (by kernel_rfl))
 f266:=Tryd.func116.trans (congrArg some (by kernel_rfl))
 f267:=Tryd.func105.trans (congrArg some (by kernel_rfl))
 f268:=Tryd.func107.trans (congrArg some (by kernel_rfl))
 f314:=Tryd.func117.trans (congrArg some (by kernel_rfl))
 t0:=Tryd.underlying0
 a0:=Tryd.isAgg0
 z0:=Tryd.sizeOf0
 v0:=Tryd.zeroValue0
 t3:=Tryd.underlying3
 a3:=Tryd.isAgg3
 z3:=Tryd.sizeOf3
 v3:=Tryd.zeroValue3
 t4:=Tryd.underlying4
 a4:=Tryd.isAgg4
 z4:=Tryd.sizeOf4
 v4:=Tryd.zeroValue4
 t5:=Tryd.underlying5
 a5:=Tryd.isAgg5
 z5:=Tryd.sizeOf5
 v5:=Tryd.zeroValue5
 t9:=Tryd.underlying9
 a9:=Tryd.isAgg9
 z9:=Tryd.sizeOf9
 v9:=Tryd.zeroValue9
 t21:=Tryd.underlying21
 a21:=Tryd.isAgg21
 z21:=Tryd.sizeOf21
 v21:=Tryd.zeroValue21
 t31:=Tryd.underlying23
 a31:=Tryd.isAgg23
 z31:=Tryd.sizeOf23
 v31:=Tryd.zeroValue23
 t46:=Tryd.underlying89
 a46:=Tryd.isAgg89
 z46:=Tryd.sizeOf89
 v46:=Tryd.zeroValue89
 t51:=Tryd.underlying131
 a51:=Tryd.isAgg131
 z51:=Tryd.sizeOf131
 v51:=Tryd.zeroValue131
 t105:=Tryd.underlying123
 a105:=Tryd.isAgg123
 z105:=Tryd.sizeOf123
 v105:=Tryd.zeroValue123
 t119:=Tryd.underlying137
 a119:=Tryd.isAgg137
 z119:=Tryd.sizeOf137
 t138:=Tryd.underlying139
 a138:=Tryd.isAgg139
 z138:=Tryd.sizeOf139
 v138:=Tryd.zeroValue139
 t139:=Tryd.underlying140
 a139:=Tryd.isAgg140
 z139:=Tryd.sizeOf140
 v139:=Tryd.zeroValue140
 t146:=Tryd.underlying132
 a146:=Tryd.isAgg132
 z146:=Tryd.sizeOf132
 v146:=Tryd.zeroValue132
 g1:=by kernel_rfl
 g3:=by kernel_rfl
 g4:=by kernel_rfl}
open Go.RowKit Go.Lib in
theorem Tryd.strings_Split (s sep:ByteArray) (m:Int) (w:World) (hs:s.size<4294967281) (hm:w.cell? ⟨0,0,none⟩=some (.int .i64 m)) (h1:1≤sep.size):
  Calls Tryd.prog 63 #[.string s,.string sep] w fun e w'=>
   e= .returned (.slice (some ⟨w.heap.size,0,none⟩) (Lib.countB s sep+1) (Lib.countB s sep+1))∧w'=w.alloc (.cells ((Lib.splitB sep 0 (Lib.countB s sep) s).map Value.string).toArray 9):=Any.strings_Split Tryd.lays146 (by kernel_rfl) s sep m w hs hm h1
def Tryd.lays110_ren:Go.Shelf.Ren:=⟨fun|110=>120|109=>124|n=>n,fun|31=>23|9=>9|4=>4|3=>3|0=>0|n=>n,fun|n=>n⟩
theorem Tryd.lays110:Go.Proofs.Lays.n110 Tryd.prog Tryd.lays110_ren:= {
 mixed:=by kernel_rfl
 f109:=Tryd.func124.trans (congrArg some (by kernel_rfl))
 f110:=Tryd.func120.trans (congrArg some (by kernel_rfl))
 t0:=Tryd.underlying0
 a0:=Tryd.isAgg0
 z0:=Tryd.sizeOf0
 v0:=Tryd.zeroValue0
 t3:=Tryd.underlying3
 a3:=Tryd.isAgg3
 z3:=Tryd.sizeOf3
 v3:=Tryd.zeroValue3
 t4:=Tryd.underlying4
 a4:=Tryd.isAgg4
 z4:=Tryd.sizeOf4
 v4:=Tryd.zeroValue4
 t9:=Tryd.underlying9
 a9:=Tryd.isAgg9
 z9:=Tryd.sizeOf9
 v9:=Tryd.zeroValue9
 t31:=Tryd.underlying23
 a31:=Tryd.isAgg23
 z31:=Tryd.sizeOf23
 v31:=Tryd.zeroValue23}
open Go.Lib in
theorem Tryd.slices_Contains_string (b off n c:Nat) (zs:List ByteArray) (x:ByteArray) (w:World) (hz:n≤zs.length) (hbig:n≤9223372036854775807) (hc: ∀j,j<zs.length→w.cell? ⟨b,off+j,none⟩=some (.string (zs.getD j ByteArray.empty))):
 Calls Tryd.prog 120 #[.slice (some ⟨b,off,none⟩) n c,.string x] w fun e w'=>e= .returned (.bool (Lib.containsS (zs.take n) x))∧w'=w:=Any.slices_Contains_string Tryd.lays110 b off n c zs x w hz hbig hc
open Go.Lib in
theorem Tryd.slices_Contains_string_empty (a:Option Addr) (c:Nat) (x:ByteArray) (w:World):
 Calls Tryd.prog 120 #[.slice a 0 c,.string x] w fun e w'=>e= .returned (.bool false)∧w'=w:=Any.slices_Contains_string_empty Tryd.lays110 a c x w
end Go.Proofs
