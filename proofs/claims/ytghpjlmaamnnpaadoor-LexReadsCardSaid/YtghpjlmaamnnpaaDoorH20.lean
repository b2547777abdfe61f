import Derived.Shelf.Small.Strs
import Derived.Shelf.Small.Wraps
import Derived.Shelf.Strconv.ToError
import Derived.Shelf.Strconv.ToErrorRange
import Derived.Shelf.Strings.Search3
import Derived.Shelf.Strings.Prefix
import Derived.Shelf.Strings.Fields
import Derived.Shelf.Strings.CaseAny
import Derived.Shelf.Slices.Turned
import Derived.Test.YtghpjlmaamnnpaaDoorProg
import Derived.Test.YtghpjlmaamnnpaaDoorH18
import Derived.Test.YtghpjlmaamnnpaaDoorH19
import Derived.KernelRfl
import Derived.Lib.LaidCaseMet
set_option linter.all false
namespace Go.Proofs
open Go.Shelf
def Tryd.lays159_ren:Go.Shelf.Ren:=⟨fun|159=>22|165=>37|166=>38|167=>39|169=>40|230=>41|204=>42|240=>51|241=>52|197=>53|118=>54|168=>55|270=>56|262=>57|276=>70|277=>71|260=>72|242=>73|313=>74|278=>80|274=>81|275=>82|n=>n,fun|9=>9|4=>4|3=>3|5=>5|72=>72|0=>0|76=>74|75=>55|107=>79|70=>70|20=>20|37=>38|127=>84|21=>21|105=>85|164=>100|162=>106|203=>104|119=>97|46=>42|139=>121|138=>120|51=>111|160=>122|208=>142|206=>140|80=>77|n=>n,fun|13=>2|3=>6|4=>7|n=>n⟩
theorem Tryd.lays159:Go.Proofs.Lays.n159 Tryd.prog Tryd.lays159_ren:={
 mixed:=by kernel_rfl
 f118:=Tryd.func54.trans (congrArg some (by kernel_rfl))
 f159:=Tryd.func22.trans (congrArg some (by kernel_rfl))
 f165:=Tryd.func37.trans (congrArg some (by kernel_rfl))
 f166:=Tryd.func38.trans (congrArg some (by kernel_rfl))
 f167:=Tryd.func39.trans (congrArg some (by kernel_rfl))
 f168:=Tryd.func55.trans (congrArg some (by kernel_rfl))
 f169:=Tryd.func40.trans (congrArg some (by kernel_rfl))
 f197:=Tryd.func53.trans (congrArg some (by kernel_rfl))
 f204:=Tryd.func42.trans (congrArg some (by kernel_rfl))
 f230:=Tryd.func41.trans (congrArg some (by kernel_rfl))
 f240:=Tryd.func51.trans (congrArg some (by kernel_rfl))
 f241:=Tryd.func52.trans (congrArg some (by kernel_rfl))
 f242:=Tryd.func73.trans (congrArg some (by kernel_rfl))
 f260:=Tryd.func72.trans (congrArg some (by kernel_rfl))
 f262:=Tryd.func57.trans (congrArg some (by kernel_rfl))
 f270:=Tryd.func56.trans (congrArg some (by kernel_rfl))
 f274:=Tryd.func81.trans (congrArg some (by kernel_rfl))
 f275:=Tryd.func82.trans (congrArg some (by kernel_rfl))
 f276:=Tryd.func70.trans (congrArg some (by kernel_rfl))
 f277:=Tryd.func71.trans (congrArg some (by kernel_rfl))
 f278:=Tryd.func80.trans (congrArg some (by kernel_rfl))
 f313:=Tryd.func74.trans (congrArg some (by kernel_rfl))
 t0:=Tryd.underlying0
 a0:=Tryd.isAgg0
 z0:=Tryd.sizeOf0
 v0:=Tryd.zeroValue0
 t3:=Tryd.underlying3
 a3:=Tryd.isAgg3
 z3:=Tryd.sizeOf3
 v3:=Tryd.zeroValue3
 t4:=Tryd.underlying4
 a4:=Tryd.isAgg4
 z4:=Tryd.sizeOf4
 v4:=Tryd.zeroValue4
 t5:=Tryd.underlying5
 a5:=Tryd.isAgg5
 z5:=Tryd.sizeOf5
 v5:=Tryd.zeroValue5
 t9:=Tryd.underlying9
 a9:=Tryd.isAgg9
 z9:=Tryd.sizeOf9
 v9:=Tryd.zeroValue9
 t20:=Tryd.underlying20
 a20:=Tryd.isAgg20
 z20:=Tryd.sizeOf20
 v20:=Tryd.zeroValue20
 t21:=Tryd.underlying21
 a21:=Tryd.isAgg21
 z21:=Tryd.sizeOf21
 v21:=Tryd.zeroValue21
 t37:=Tryd.underlying38
 a37:=Tryd.isAgg38
 z37:=Tryd.sizeOf38
 v37:=Tryd.zeroValue38
 t46:=Tryd.underlying42
 a46:=Tryd.isAgg42
 z46:=Tryd.sizeOf42
 v46:=Tryd.zeroValue42
 t51:=Tryd.underlying111
 a51:=Tryd.isAgg111
 z51:=Tryd.sizeOf111
 v51:=Tryd.zeroValue111
 t70:=Tryd.underlying70
 a70:=Tryd.isAgg70
 z70:=Tryd.sizeOf70
 v70:=Tryd.zeroValue70
 t72:=Tryd.underlying72
 a72:=Tryd.isAgg72
 z72:=Tryd.sizeOf72
 v72:=Tryd.zeroValue72
 t75:=Tryd.underlying55
 a75:=Tryd.isAgg55
 z75:=Tryd.sizeOf55
 v75:=Tryd.zeroValue55
 t76:=Tryd.underlying74
 a76:=Tryd.isAgg74
 z76:=Tryd.sizeOf74
 v76:=Tryd.zeroValue74
 t105:=Tryd.underlying85
 a105:=Tryd.isAgg85
 z105:=Tryd.sizeOf85
 v105:=Tryd.zeroValue85
 t107:=Tryd.underlying79
 a107:=Tryd.isAgg79
 z107:=Tryd.sizeOf79
 v107:=Tryd.zeroValue79
 t119:=Tryd.underlying97
 a119:=Tryd.isAgg97
 z119:=Tryd.sizeOf97
 t127:=Tryd.underlying84
 a127:=Tryd.isAgg84
 z127:=Tryd.sizeOf84
 v127:=Tryd.zeroValue84
 t138:=Tryd.underlying120
 a138:=Tryd.isAgg120
 z138:=Tryd.sizeOf120
 v138:=Tryd.zeroValue120
 t139:=Tryd.underlying121
 a139:=Tryd.isAgg121
 z139:=Tryd.sizeOf121
 v139:=Tryd.zeroValue121
 t160:=Tryd.underlying122
 a160:=Tryd.isAgg122
 z160:=Tryd.sizeOf122
 v160:=Tryd.zeroValue122
 t162:=Tryd.underlying106
 a162:=Tryd.isAgg106
 z162:=Tryd.sizeOf106
 v162:=Tryd.zeroValue106
 t164:=Tryd.underlying100
 a164:=Tryd.isAgg100
 z164:=Tryd.sizeOf100
 v164:=Tryd.zeroValue100
 t203:=Tryd.underlying104
 a203:=Tryd.isAgg104
 z203:=Tryd.sizeOf104
 v203:=Tryd.zeroValue104
 t206:=Tryd.underlying140
 a206:=Tryd.isAgg140
 z206:=Tryd.sizeOf140
 v206:=Tryd.zeroValue140
 t208:=Tryd.underlying142
 a208:=Tryd.isAgg142
 z208:=Tryd.sizeOf142
 v208:=Tryd.zeroValue142
 g3:=by kernel_rfl
 g4:=by kernel_rfl
 g13:=by kernel_rfl }
theorem Tryd.Builder_Extra_159:Builder.Extra Tryd.prog Tryd.lays159_ren:={
 sizeBuilder:=by kernel_rfl
 liesBuilder:=by kernel_rfl
 t5:=Tryd.underlying5
 a5:=Tryd.isAgg5
 z5:=Tryd.sizeOf5
 v5:=Tryd.zeroValue5
 infoByte:=by kernel_rfl
 cellsByte:=by kernel_rfl
 sizeByte:=by kernel_rfl
 neB5:=by decide }
def Tryd.lays137_ren:Go.Shelf.Ren:=⟨fun|137=>27|217=>46|266=>64|n=>n,fun|9=>9|5=>5|3=>3|n=>n,fun|n=>n⟩
theorem Tryd.lays137:Go.Proofs.Lays.n137 Tryd.prog Tryd.lays137_ren:={
 mixed:=by kernel_rfl
 f137:=Tryd.func27.trans (congrArg some (by kernel_rfl))
 f217:=Tryd.func46.trans (congrArg some (by kernel_rfl))
 f266:=Tryd.func64.trans (congrArg some (by kernel_rfl))
 t3:=Tryd.underlying3
 a3:=Tryd.isAgg3
 z3:=Tryd.sizeOf3
 v3:=Tryd.zeroValue3
 t5:=Tryd.underlying5
 a5:=Tryd.isAgg5
 z5:=Tryd.sizeOf5
 v5:=Tryd.zeroValue5
 t9:=Tryd.underlying9
 a9:=Tryd.isAgg9
 z9:=Tryd.sizeOf9
 v9:=Tryd.zeroValue9 }
open Go.RowKit in
theorem Tryd.strings_IndexByte (s:ByteArray) (c:Int) (w:World) :
  Calls Tryd.prog 27 #[.string s,.int .u8 c] w fun e w'=>e=.returned (.int .i64 (Lib.indexByte s.data.toList c.toNat.toUInt8)) ∧ w'=w:=Any.strings_IndexByte Tryd.lays137 s c w
def Tryd.lays103_ren:Go.Shelf.Ren:=⟨fun|103=>23|210=>43|206=>47|n=>n,fun|9=>9|4=>4|24=>52|3=>3|n=>n,fun|n=>n⟩
theorem Tryd.lays103:Go.Proofs.Lays.n103 Tryd.prog Tryd.lays103_ren:={
 mixed:=by kernel_rfl
 f103:=Tryd.func23.trans (congrArg some (by kernel_rfl))
 f206:=Tryd.func47.trans (congrArg some (by kernel_rfl))
 f210:=Tryd.func43.trans (congrArg some (by kernel_rfl))
 t3:=Tryd.underlying3
 a3:=Tryd.isAgg3
 z3:=Tryd.sizeOf3
 v3:=Tryd.zeroValue3
 t4:=Tryd.underlying4
 a4:=Tryd.isAgg4
 z4:=Tryd.sizeOf4
 v4:=Tryd.zeroValue4
 t9:=Tryd.underlying9
 a9:=Tryd.isAgg9
 z9:=Tryd.sizeOf9
 v9:=Tryd.zeroValue9
 t24:=Tryd.underlying52
 a24:=Tryd.isAgg52
 z24:=Tryd.sizeOf52
 v24:=Tryd.zeroValue52 }
open Go.RowKit in
theorem Tryd.strings_CutPrefix (s p:ByteArray) (w:World) :
  Calls Tryd.prog 23 #[.string s,.string p] w fun e w'=>e=.returned (.tuple #[.string ⟨(Lib.trimPrefix s.data.toList p.data.toList).toArray⟩,.bool (Lib.hasPrefix s.data.toList p.data.toList)]) ∧ w'=w:=Any.strings_CutPrefix Tryd.lays103 s p w
def Tryd.laysC245_ren:Go.Shelf.Ren:=⟨fun|245=>45|279=>60|280=>61|281=>62|282=>63|316=>75|171=>77|205=>76|243=>83|246=>86|283=>87|284=>88|285=>89|286=>90|129=>92|317=>91|318=>93|319=>94|320=>95|337=>96|338=>97|n=>n,fun|9=>9|3=>3|75=>55|167=>91|4=>4|168=>93|210=>108|37=>38|0=>0|127=>84|145=>127|143=>125|2=>2|171=>146|53=>33|5=>5|173=>149|212=>152|51=>111|20=>20|213=>153|46=>42|232=>157|233=>158|80=>77|n=>n,fun|15=>3|16=>4|17=>8|18=>9|19=>10|n=>n⟩
theorem Tryd.laysC245:Go.Proofs.LaysC.n245 Tryd.prog Tryd.laysC245_ren:={
 mixed:=by kernel_rfl
 f129:=Tryd.func92.trans (congrArg some (by kernel_rfl))
 f171:=Tryd.func77.trans (congrArg some (by kernel_rfl))
 f205:=Tryd.func76.trans (congrArg some (by kernel_rfl))
 f243:=Tryd.func83.trans (congrArg some (by kernel_rfl))
 f245:=Tryd.func45.trans (congrArg some (by kernel_rfl))
 f246:=Tryd.func86.trans (congrArg some (by kernel_rfl))
 f279:=Tryd.func60.trans (congrArg some (by kernel_rfl))
 f280:=Tryd.func61.trans (congrArg some (by kernel_rfl))
 f281:=Tryd.func62.trans (congrArg some (by kernel_rfl))
 f282:=Tryd.func63.trans (congrArg some (by kernel_rfl))
 f283:=Tryd.func87.trans (congrArg some (by kernel_rfl))
 f284:=Tryd.func88.trans (congrArg some (by kernel_rfl))
 f285:=Tryd.func89.trans (congrArg some (by kernel_rfl))
 f286:=Tryd.func90.trans (congrArg some (by kernel_rfl))
 f316:=Tryd.func75.trans (congrArg some (by kernel_rfl))
 f317:=Tryd.func91.trans (congrArg some (by kernel_rfl))
 f318:=Tryd.func93.trans (congrArg some (by kernel_rfl))
 f319:=Tryd.func94.trans (congrArg some (by kernel_rfl))
 f320:=Tryd.func95.trans (congrArg some (by kernel_rfl))
 f337:=Tryd.func96.trans (congrArg some (by kernel_rfl))
 f338:=Tryd.func97.trans (congrArg some (by kernel_rfl))
 t0:=Tryd.underlying0
 a0:=Tryd.isAgg0
 z0:=Tryd.sizeOf0
 v0:=Tryd.zeroValue0
 t2:=Tryd.underlying2
 a2:=Tryd.isAgg2
 z2:=Tryd.sizeOf2
 v2:=Tryd.zeroValue2
 t3:=Tryd.underlying3
 a3:=Tryd.isAgg3
 z3:=Tryd.sizeOf3
 v3:=Tryd.zeroValue3
 t4:=Tryd.underlying4
 a4:=Tryd.isAgg4
 z4:=Tryd.sizeOf4
 v4:=Tryd.zeroValue4
 t5:=Tryd.underlying5
 a5:=Tryd.isAgg5
 z5:=Tryd.sizeOf5
 v5:=Tryd.zeroValue5
 t9:=Tryd.underlying9
 a9:=Tryd.isAgg9
 z9:=Tryd.sizeOf9
 v9:=Tryd.zeroValue9
 t20:=Tryd.underlying20
 a20:=Tryd.isAgg20
 z20:=Tryd.sizeOf20
 v20:=Tryd.zeroValue20
 t37:=Tryd.underlying38
 a37:=Tryd.isAgg38
 z37:=Tryd.sizeOf38
 v37:=Tryd.zeroValue38
 t46:=Tryd.underlying42
 a46:=Tryd.isAgg42
 z46:=Tryd.sizeOf42
 v46:=Tryd.zeroValue42
 t51:=Tryd.underlying111
 a51:=Tryd.isAgg111
 z51:=Tryd.sizeOf111
 v51:=Tryd.zeroValue111
 t53:=Tryd.underlying33
 a53:=Tryd.isAgg33
 z53:=Tryd.sizeOf33
 v53:=Tryd.zeroValue33
 t75:=Tryd.underlying55
 a75:=Tryd.isAgg55
 z75:=Tryd.sizeOf55
 v75:=Tryd.zeroValue55
 t127:=Tryd.underlying84
 a127:=Tryd.isAgg84
 z127:=Tryd.sizeOf84
 v127:=Tryd.zeroValue84
 t143:=Tryd.underlying125
 a143:=Tryd.isAgg125
 z143:=Tryd.sizeOf125
 v143:=Tryd.zeroValue125
 t145:=Tryd.underlying127
 a145:=Tryd.isAgg127
 z145:=Tryd.sizeOf127
 v145:=Tryd.zeroValue127
 t167:=Tryd.underlying91
 a167:=Tryd.isAgg91
 z167:=Tryd.sizeOf91
 v167:=Tryd.zeroValue91
 t168:=Tryd.underlying93
 a168:=Tryd.isAgg93
 z168:=Tryd.sizeOf93
 v168:=Tryd.zeroValue93
 t171:=Tryd.underlying146
 a171:=Tryd.isAgg146
 z171:=Tryd.sizeOf146
 v171:=Tryd.zeroValue146
 t173:=Tryd.underlying149
 a173:=Tryd.isAgg149
 z173:=Tryd.sizeOf149
 v173:=Tryd.zeroValue149
 t210:=Tryd.underlying108
 a210:=Tryd.isAgg108
 z210:=Tryd.sizeOf108
 v210:=Tryd.zeroValue108
 t212:=Tryd.underlying152
 a212:=Tryd.isAgg152
 z212:=Tryd.sizeOf152
 v212:=Tryd.zeroValue152
 t213:=Tryd.underlying153
 a213:=Tryd.isAgg153
 z213:=Tryd.sizeOf153
 t232:=Tryd.underlying157
 a232:=Tryd.isAgg157
 z232:=Tryd.sizeOf157
 v232:=Tryd.zeroValue157
 t233:=Tryd.underlying158
 a233:=Tryd.isAgg158
 z233:=Tryd.sizeOf158
 v233:=Tryd.zeroValue158
 g15:=by kernel_rfl
 g16:=by kernel_rfl
 g17:=by kernel_rfl
 g18:=by kernel_rfl
 g19:=by kernel_rfl
 t80:=Tryd.underlying77
 a80:=Tryd.isAgg77
 z80:=Tryd.sizeOf77
 v80:=Tryd.zeroValue77
 i0:=by kernel_rfl
 i2:=by kernel_rfl
 i3:=by kernel_rfl
 i4:=by kernel_rfl
 i5:=by kernel_rfl
 i9:=by kernel_rfl
 i20:=by kernel_rfl
 i37:=by kernel_rfl
 i46:=by kernel_rfl
 i51:=by kernel_rfl
 i53:=by kernel_rfl
 i75:=by kernel_rfl
 i80:=by kernel_rfl
 i127:=by kernel_rfl
 i143:=by kernel_rfl
 i145:=by kernel_rfl
 i167:=by kernel_rfl
 i168:=by kernel_rfl
 i171:=by kernel_rfl
 i173:=by kernel_rfl
 i210:=by kernel_rfl
 i212:=by kernel_rfl
 i232:=by kernel_rfl
 i233:=by kernel_rfl
 m15:=by kernel_rfl
 m16:=by kernel_rfl
 m17:=by kernel_rfl
 m18:=by kernel_rfl
 m19:=by kernel_rfl
 c0:=by kernel_rfl
 c2:=by kernel_rfl
 c3:=by kernel_rfl
 c4:=by kernel_rfl
 c5:=by kernel_rfl
 c9:=by kernel_rfl
 c20:=by kernel_rfl
 c37:=by kernel_rfl
 c46:=by kernel_rfl
 c51:=by kernel_rfl
 c53:=by kernel_rfl
 c75:=by kernel_rfl
 c80:=by kernel_rfl
 c127:=by kernel_rfl
 c143:=by kernel_rfl
 c145:=by kernel_rfl
 c167:=by kernel_rfl
 c168:=by kernel_rfl
 c171:=by kernel_rfl
 c173:=by kernel_rfl
 c210:=by kernel_rfl
 c212:=by kernel_rfl
 c213:=by kernel_rfl
 c232:=by kernel_rfl
 c233:=by kernel_rfl }
open Go.RowKit in
theorem Tryd.strconv_toError_syntax (fn s:ByteArray) (base bits:Int) (ev:Value) (w:World) (hlim:s.size ≤ 281474976710656) (hv:w.cell? ⟨3,0,none⟩=some ev) (hev:ev=.nilIface ∨ ∃ te pe,ev=.iface te pe) :
  Calls Tryd.prog 45 #[.string fn,.string s,.int .i64 base,.int .i64 bits,.iface 91 (.int .i64 2)] w fun e w'=>∃ N,e=.returned (.iface 93 (.pointer (some ⟨N,0,none⟩))) ∧ w.heap.size ≤ N ∧ w'.heap[N]?=some (.cells #[.string fn,.string s,ev] 108 (0,0)) ∧ Below w.heap.size w w':=Any.strconv_toError_syntax Tryd.laysC245 fn s base bits ev w hlim hv hev
open Go.RowKit in
theorem Tryd.strconv_toError_range (fn s:ByteArray) (base bits:Int) (ev:Value) (w:World) (hlim:s.size ≤ 281474976710656) (hv:w.cell? ⟨4,0,none⟩=some ev) (hev:ev=.nilIface ∨ ∃ te pe,ev=.iface te pe) :
  Calls Tryd.prog 45 #[.string fn,.string s,.int .i64 base,.int .i64 bits,.iface 91 (.int .i64 1)] w fun e w'=>∃ N,e=.returned (.iface 93 (.pointer (some ⟨N,0,none⟩))) ∧ w.heap.size ≤ N ∧ w'.heap[N]?=some (.cells #[.string fn,.string s,ev] 108 (0,0)) ∧ Below w.heap.size w w':=Any.strconv_toError_range Tryd.laysC245 fn s base bits ev w hlim hv hev
def Tryd.lays143_ren:Go.Shelf.Ren:=⟨fun|143=>29|219=>48|217=>46|225=>65|224=>66|267=>67|266=>64|314=>78|n=>n,fun|9=>9|3=>3|4=>4|5=>5|46=>42|146=>112|51=>111|n=>n,fun|1=>0|n=>n⟩
theorem Tryd.lays143:Go.Proofs.Lays.n143 Tryd.prog Tryd.lays143_ren:={
 mixed:=by kernel_rfl
 f143:=Tryd.func29.trans (congrArg some (by kernel_rfl))
 f217:=Tryd.func46.trans (congrArg some (by kernel_rfl))
 f219:=Tryd.func48.trans (congrArg some (by kernel_rfl))
 f224:=Tryd.func66.trans (congrArg some (by kernel_rfl))
 f225:=Tryd.func65.trans (congrArg some (by kernel_rfl))
 f266:=Tryd.func64.trans (congrArg some (by kernel_rfl))
 f267:=Tryd.func67.trans (congrArg some (by kernel_rfl))
 f314:=Tryd.func78.trans (congrArg some (by kernel_rfl))
 t3:=Tryd.underlying3
 a3:=Tryd.isAgg3
 z3:=Tryd.sizeOf3
 v3:=Tryd.zeroValue3
 t4:=Tryd.underlying4
 a4:=Tryd.isAgg4
 z4:=Tryd.sizeOf4
 v4:=Tryd.zeroValue4
 t5:=Tryd.underlying5
 a5:=Tryd.isAgg5
 z5:=Tryd.sizeOf5
 v5:=Tryd.zeroValue5
 t9:=Tryd.underlying9
 a9:=Tryd.isAgg9
 z9:=Tryd.sizeOf9
 v9:=Tryd.zeroValue9
 t46:=Tryd.underlying42
 a46:=Tryd.isAgg42
 z46:=Tryd.sizeOf42
 v46:=Tryd.zeroValue42
 t51:=Tryd.underlying111
 a51:=Tryd.isAgg111
 z51:=Tryd.sizeOf111
 v51:=Tryd.zeroValue111
 t146:=Tryd.underlying112
 a146:=Tryd.isAgg112
 z146:=Tryd.sizeOf112
 v146:=Tryd.zeroValue112
 g1:=by kernel_rfl }
open Go.RowKit Go.Lib in
theorem Tryd.strings_Index (s sub:ByteArray) (m:Int) (w:World) (hs:s.size<4294967281) (hm:w.cell? ⟨0,0,none⟩=some (.int .i64 m)) :
  Calls Tryd.prog 29 #[.string s,.string sub] w fun e w'=>e=.returned (.int .i64 (Lib.index s.data.toList sub.data.toList)) ∧ w'=w:=Any.strings_Index Tryd.lays143 s sub m w hs hm
def Tryd.lays144_ren:Go.Shelf.Ren:=⟨fun|144=>21|143=>29|219=>48|217=>46|225=>65|224=>66|267=>67|266=>64|314=>78|n=>n,fun|9=>9|4=>4|3=>3|5=>5|46=>42|146=>112|51=>111|n=>n,fun|1=>0|n=>n⟩
theorem Tryd.lays144:Go.Proofs.Lays.n144 Tryd.prog Tryd.lays144_ren:={
 mixed:=by kernel_rfl
 f143:=Tryd.func29.trans (congrArg some (by kernel_rfl))
 f144:=Tryd.func21.trans (congrArg some (by kernel_rfl))
 f217:=Tryd.func46.trans (congrArg some (by kernel_rfl))
 f219:=Tryd.func48.trans (congrArg some (by kernel_rfl))
 f224:=Tryd.func66.trans (congrArg some (by kernel_rfl))
 f225:=Tryd.func65.trans (congrArg some (by kernel_rfl))
 f266:=Tryd.func64.trans (congrArg some (by kernel_rfl))
 f267:=Tryd.func67.trans (congrArg some (by kernel_rfl))
 f314:=Tryd.func78.trans (congrArg some (by kernel_rfl))
 t3:=Tryd.underlying3
 a3:=Tryd.isAgg3
 z3:=Tryd.sizeOf3
 v3:=Tryd.zeroValue3
 t4:=Tryd.underlying4
 a4:=Tryd.isAgg4
 z4:=Tryd.sizeOf4
 v4:=Tryd.zeroValue4
 t5:=Tryd.underlying5
 a5:=Tryd.isAgg5
 z5:=Tryd.sizeOf5
 v5:=Tryd.zeroValue5
 t9:=Tryd.underlying9
 a9:=Tryd.isAgg9
 z9:=Tryd.sizeOf9
 v9:=Tryd.zeroValue9
 t46:=Tryd.underlying42
 a46:=Tryd.isAgg42
 z46:=Tryd.sizeOf42
 v46:=Tryd.zeroValue42
 t51:=Tryd.underlying111
 a51:=Tryd.isAgg111
 z51:=Tryd.sizeOf111
 v51:=Tryd.zeroValue111
 t146:=Tryd.underlying112
 a146:=Tryd.isAgg112
 z146:=Tryd.sizeOf112
 v146:=Tryd.zeroValue112
 g1:=by kernel_rfl }
open Go.RowKit Go.Lib in
theorem Tryd.strings_Contains_one (s:ByteArray) (c:UInt8) (w:World) :
  Calls Tryd.prog 21 #[.string s,.string ⟨#[c]⟩] w fun e w'=>e=.returned (.bool (decide (0 ≤ Lib.indexByte s.data.toList c))) ∧ w'=w:=Any.strings_Contains_one Tryd.lays144 s c w
def Tryd.lays99_ren:Go.Shelf.Ren:=⟨fun|99=>28|206=>47|n=>n,fun|9=>9|4=>4|3=>3|n=>n,fun|n=>n⟩
theorem Tryd.lays99:Go.Proofs.Lays.n99 Tryd.prog Tryd.lays99_ren:={
 mixed:=by kernel_rfl
 f99:=Tryd.func28.trans (congrArg some (by kernel_rfl))
 f206:=Tryd.func47.trans (congrArg some (by kernel_rfl))
 t3:=Tryd.underlying3
 a3:=Tryd.isAgg3
 z3:=Tryd.sizeOf3
 v3:=Tryd.zeroValue3
 t4:=Tryd.underlying4
 a4:=Tryd.isAgg4
 z4:=Tryd.sizeOf4
 v4:=Tryd.zeroValue4
 t9:=Tryd.underlying9
 a9:=Tryd.isAgg9
 z9:=Tryd.sizeOf9
 v9:=Tryd.zeroValue9 }
open Go.RowKit Go.Lib in
theorem Tryd.strings_HasPrefix (s p:ByteArray) (w:World) :
  Calls Tryd.prog 28 #[.string s,.string p] w fun e w'=>e=.returned (.bool (Lib.hasPrefix s.data.toList p.data.toList)) ∧ w'=w:=Any.strings_HasPrefix Tryd.lays99 s p w
def Tryd.lays157_ren:Go.Shelf.Ren:=⟨fun|157=>50|229=>68|199=>69|261=>79|311=>84|312=>85|n=>n,fun|9=>9|31=>63|3=>3|5=>5|4=>4|119=>97|0=>0|40=>99|152=>114|21=>21|154=>116|51=>111|141=>118|196=>131|193=>128|198=>134|49=>132|194=>129|201=>137|226=>144|46=>42|227=>145|n=>n,fun|0=>1|6=>5|n=>n⟩
theorem Tryd.lays157:Go.Proofs.Lays.n157 Tryd.prog Tryd.lays157_ren:={
 mixed:=by kernel_rfl
 f157:=Tryd.func50.trans (congrArg some (by kernel_rfl))
 f199:=Tryd.func69.trans (congrArg some (by kernel_rfl))
 f229:=Tryd.func68.trans (congrArg some (by kernel_rfl))
 f261:=Tryd.func79.trans (congrArg some (by kernel_rfl))
 f311:=Tryd.func84.trans (congrArg some (by kernel_rfl))
 f312:=Tryd.func85.trans (congrArg some (by kernel_rfl))
 t0:=Tryd.underlying0
 a0:=Tryd.isAgg0
 z0:=Tryd.sizeOf0
 v0:=Tryd.zeroValue0
 t3:=Tryd.underlying3
 a3:=Tryd.isAgg3
 z3:=Tryd.sizeOf3
 v3:=Tryd.zeroValue3
 t4:=Tryd.underlying4
 a4:=Tryd.isAgg4
 z4:=Tryd.sizeOf4
 v4:=Tryd.zeroValue4
 t5:=Tryd.underlying5
 a5:=Tryd.isAgg5
 z5:=Tryd.sizeOf5
 v5:=Tryd.zeroValue5
 t9:=Tryd.underlying9
 a9:=Tryd.isAgg9
 z9:=Tryd.sizeOf9
 v9:=Tryd.zeroValue9
 t21:=Tryd.underlying21
 a21:=Tryd.isAgg21
 z21:=Tryd.sizeOf21
 v21:=Tryd.zeroValue21
 t31:=Tryd.underlying63
 a31:=Tryd.isAgg63
 z31:=Tryd.sizeOf63
 v31:=Tryd.zeroValue63
 t40:=Tryd.underlying99
 a40:=Tryd.isAgg99
 z40:=Tryd.sizeOf99
 v40:=Tryd.zeroValue99
 t46:=Tryd.underlying42
 a46:=Tryd.isAgg42
 z46:=Tryd.sizeOf42
 v46:=Tryd.zeroValue42
 t49:=Tryd.underlying132
 a49:=Tryd.isAgg132
 z49:=Tryd.sizeOf132
 v49:=Tryd.zeroValue132
 t51:=Tryd.underlying111
 a51:=Tryd.isAgg111
 z51:=Tryd.sizeOf111
 v51:=Tryd.zeroValue111
 t119:=Tryd.underlying97
 a119:=Tryd.isAgg97
 z119:=Tryd.sizeOf97
 t141:=Tryd.underlying118
 a141:=Tryd.isAgg118
 z141:=Tryd.sizeOf118
 v141:=Tryd.zeroValue118
 t152:=Tryd.underlying114
 a152:=Tryd.isAgg114
 z152:=Tryd.sizeOf114
 v152:=Tryd.zeroValue114
 t154:=Tryd.underlying116
 a154:=Tryd.isAgg116
 z154:=Tryd.sizeOf116
 v154:=Tryd.zeroValue116
 t193:=Tryd.underlying128
 a193:=Tryd.isAgg128
 z193:=Tryd.sizeOf128
 v193:=Tryd.zeroValue128
 t194:=Tryd.underlying129
 a194:=Tryd.isAgg129
 z194:=Tryd.sizeOf129
 v194:=Tryd.zeroValue129
 t196:=Tryd.underlying131
 a196:=Tryd.isAgg131
 z196:=Tryd.sizeOf131
 v196:=Tryd.zeroValue131
 t198:=Tryd.underlying134
 a198:=Tryd.isAgg134
 z198:=Tryd.sizeOf134
 v198:=Tryd.zeroValue134
 t201:=Tryd.underlying137
 a201:=Tryd.isAgg137
 z201:=Tryd.sizeOf137
 v201:=Tryd.zeroValue137
 t226:=Tryd.underlying144
 a226:=Tryd.isAgg144
 z226:=Tryd.sizeOf144
 v226:=Tryd.zeroValue144
 t227:=Tryd.underlying145
 a227:=Tryd.isAgg145
 z227:=Tryd.sizeOf145
 v227:=Tryd.zeroValue145
 g0:=by kernel_rfl
 g6:=by kernel_rfl }
open Go.RowKit Go.Lib in
theorem Tryd.strings_ToLower_any (s:ByteArray) (w:World) (hs:s.size<35184372088832) (hV:CaseVar 2 caseA w) (hT:Lib.Utf8Tabs 6 7 w) :
  Calls Tryd.prog 22 #[.string s] w fun e w'=>e=.returned (.string ⟨(Lib.toLowerD s.data.toList).toArray⟩) ∧ Below w.heap.size w w':=Any.strings_ToLower_any Tryd.lays159 Tryd.Builder_Extra_159 s w hs hV hT
def Tryd.lays110_ren:Go.Shelf.Ren:=⟨fun|110=>32|109=>49|n=>n,fun|31=>63|9=>9|4=>4|3=>3|0=>0|n=>n,fun|n=>n⟩
theorem Tryd.lays110:Go.Proofs.Lays.n110 Tryd.prog Tryd.lays110_ren:={
 mixed:=by kernel_rfl
 f109:=Tryd.func49.trans (congrArg some (by kernel_rfl))
 f110:=Tryd.func32.trans (congrArg some (by kernel_rfl))
 t0:=Tryd.underlying0
 a0:=Tryd.isAgg0
 z0:=Tryd.sizeOf0
 v0:=Tryd.zeroValue0
 t3:=Tryd.underlying3
 a3:=Tryd.isAgg3
 z3:=Tryd.sizeOf3
 v3:=Tryd.zeroValue3
 t4:=Tryd.underlying4
 a4:=Tryd.isAgg4
 z4:=Tryd.sizeOf4
 v4:=Tryd.zeroValue4
 t9:=Tryd.underlying9
 a9:=Tryd.isAgg9
 z9:=Tryd.sizeOf9
 v9:=Tryd.zeroValue9
 t31:=Tryd.underlying63
 a31:=Tryd.isAgg63
 z31:=Tryd.sizeOf63
 v31:=Tryd.zeroValue63 }
open Go.Lib in
theorem Tryd.slices_Contains_string (b off n c:Nat) (zs:List ByteArray) (x:ByteArray) (w:World) (hz:n ≤ zs.length) (hbig:n ≤ 9223372036854775807) (hc:∀ j,j<zs.length → w.cell? ⟨b,off+j,none⟩=some (.string (zs.getD j ByteArray.empty))) :
  Calls Tryd.prog 32 #[.slice (some ⟨b,off,none⟩) n c,.string x] w fun e w'=>e=.returned (.bool (Lib.containsS (zs.take n) x)) ∧ w'=w:=Any.slices_Contains_string Tryd.lays110 b off n c zs x w hz hbig hc
end Go.Proofs
namespace Go.X
open Go Go.Proofs Go.RowKit
set_option linter.unusedVariables false
set_option linter.unusedSimpArgs false
def plainV:Value → Bool
 | .string _|.int _ _|.bool _|.iface _ (.int _ _)=>true
 |_=>false
theorem vl_plain {ρ:Rn}:∀ {vs cs:List Value},vs.all plainV=true → VL ρ vs cs → cs=vs
 |[],[],_,_=>rfl
 |v :: vs,c :: cs,h,hv=>by
  simp only[List.all_cons,Bool.and_eq_true]at h
  have e:=vl_plain h.2 hv.2
  subst e
  have h1:=hv.1
  have h2:=h.1
  cases h1 with
  |bool|int|string=>rfl
  |iface h3=>cases h3 with
   |int=>rfl
   |_=>simp[plainV]at h2
  |_=>simp[plainV]at h2
 |[],_ :: _,_,h=>h.elim
 |_ :: _,[],_,h=>h.elim
theorem RelH.below {P:Program}{ρ:Rn}{g:G} {w w':World} (h:RelH P ρ g w) (hb:Below w.heap.size w w'):RelH P ρ g w' :=
 ⟨fun id b hg=>by obtain⟨l,hl,hh⟩:=h.holds id b hg;exact⟨l,hl,hh.stay (Le.refl _) fun ht=>hb.block _ (hh.lt ht)⟩,h.sep⟩
theorem Fr.below {w w':World} (O:Nat → Prop) (hb:Below w.heap.size w w'):Fr O w w':=⟨hb.os,hb.tape,hb.output,hb.size,fun k hk _=>hb.block k hk⟩
theorem good_same {P:Program}{ρ:Rn}{g:G} {w w':World} (h:RelH P ρ g w) (hb:Below w.heap.size w w') (n:Nat):GoodN P ρ g w n [] 0 ρ w' :=
 ⟨Le.refl _,fun id h0 h1=>absurd h0 h1,h.below hb,Fr.below _ hb,fun k hk=>.inl hk⟩
theorem adet_plain {P:Program}{f:FuncId}{vs:List Value}{v:Value}{pre:Hp} (n:Nat) (hf:plainFn P f=true) (hvs:vs.all plainV=true) (hv:∀ ρ,V ρ v v)
  (h:∀ ρ g w,RelH P ρ g w → (∀ id∈fstL pre,g id=hget pre id) → Calls P f ⟨vs⟩ w fun e w'=>e=.returned v ∧ Below w.heap.size w w'):ADet P f vs pre v [] n 0:=by
 refine⟨hf,fun _=>rfl,fun ρ g w cargs hc hr hp _ _=>?_⟩
 have e:=vl_plain hvs hc
 have e2:cargs=⟨vs⟩:=by cases cargs;simp only at e;rw[e]
 subst e2
 refine(h ρ g w hr hp).mono ?_
 rintro e w' ⟨rfl,hb⟩
 exact⟨ρ,good_same hr hb n,hv ρ⟩
theorem below_eq {w w':World} (h:w'=w):Below w.heap.size w w':=by subst h;exact Below.refl _ _
theorem glb_at {P:Program}{ρ:Rn}{g:G}{w:World}{id k o t:Nat}{cs:List Value} (h:RelH P ρ g w) (hg:g id=some (.glb k o t cs)) :
  ∃ l,ρ id=some l ∧ l.addr=⟨k,o,none⟩ ∧ ∀ i v,(tabOf t cs)[i]?=some v → ∃ u,w.cell? ⟨k,o+i,none⟩=some u ∧ V ρ v u:=by
 obtain⟨l,hl,h1,_,h3⟩:=h.holds id _ hg
 exact⟨l,hl,h1,fun i v hv=>by obtain⟨u,hu,hc⟩:=h3 i v hv;exact⟨u,hu,hc.2⟩⟩
theorem glb_int {P:Program}{ρ:Rn}{g:G}{w:World}{id k o t:Nat}{cs:List Value} (h:RelH P ρ g w) (hg:g id=some (.glb k o t cs)){i:Nat}{q:IntKind}{z:Int} (hv:(tabOf t cs)[i]?=some (.int q z)) :
  w.cell? ⟨k,o+i,none⟩=some (.int q z):=by
 obtain⟨l,_,_,h3⟩:=glb_at h hg
 obtain⟨u,hu,hc⟩:=h3 i _ hv
 cases hc
 exact hu
def bs (l:List UInt8):ByteArray:=⟨l.toArray⟩
def ixB (s:ByteArray) (c:Int):Int:=Lib.indexByte s.data.toList c.toNat.toUInt8
def ixS (s p:ByteArray):Int:=Lib.index s.data.toList p.data.toList
def hasP (s p:ByteArray):Bool:=Lib.hasPrefix s.data.toList p.data.toList
def cutP (s p:ByteArray):ByteArray:=bs (Lib.trimPrefix s.data.toList p.data.toList)
def hasB (s:ByteArray) (c:UInt8):Bool:=decide (0 ≤ Lib.indexByte s.data.toList c)
def g27:List Value → Option Value
 |[.string s,.int .u8 c]=>some (.int .i64 (ixB s c))
 |_=>none
def con27:Con Tryd.prog:=pureC 27 g27 fun vs v n h=>by
 unfold g27 at h
 split at h
 ·cases h
  exact adet_plain n (by kernel_rfl) rfl (fun ρ=>.int _ _) fun ρ g w hr _=>(Tryd.strings_IndexByte _ _ w).mono fun e w' h=>⟨h.1,below_eq h.2⟩
 ·cases h
def g28:List Value → Option Value
 |[.string s,.string p]=>some (.bool (hasP s p))
 |_=>none
def con28:Con Tryd.prog:=pureC 28 g28 fun vs v n h=>by
 unfold g28 at h
 split at h
 ·cases h
  exact adet_plain n (by kernel_rfl) rfl (fun ρ=>.bool _) fun ρ g w hr _=>(Tryd.strings_HasPrefix _ _ w).mono fun e w' h=>⟨h.1,below_eq h.2⟩
 ·cases h
theorem v_tuple2 {ρ:Rn}{a b:Value} (ha:V ρ a a) (hb:V ρ b b):V ρ (.tuple #[a,b]) (.tuple #[a,b]) :=
 .tuple rfl fun i v v' h h'=>by
  rw[h]at h';cases h'
  match i,h with
  |0,h=>simp at h;subst h;exact ha
  |1,h=>simp at h;subst h;exact hb
  |i+2,h=>simp at h
def g23:List Value → Option Value
 |[.string s,.string p]=>some (.tuple #[.string (cutP s p),.bool (hasP s p)])
 |_=>none
def con23:Con Tryd.prog:=pureC 23 g23 fun vs v n h=>by
 unfold g23 at h
 split at h
 ·cases h
  exact adet_plain n (by kernel_rfl) rfl (fun ρ=>v_tuple2 (.string _) (.bool _)) fun ρ g w hr _=>(Tryd.strings_CutPrefix _ _ w).mono fun e w' h=>⟨h.1,below_eq h.2⟩
 ·cases h
def g21:List Value → Option Value
 |[.string s,.string ⟨⟨[c]⟩⟩]=>some (.bool (hasB s c))
 |_=>none
def con21:Con Tryd.prog:=pureC 21 g21 fun vs v n h=>by
 unfold g21 at h
 split at h
 ·cases h
  exact adet_plain n (by kernel_rfl) rfl (fun ρ=>.bool _) fun ρ g w hr _=>(Tryd.strings_Contains_one _ _ w).mono fun e w' h=>⟨h.1,below_eq h.2⟩
 ·cases h
def con29:Con Tryd.prog where
 f:=29
 run:=fun vs h n=>match vs,hget h 10 with
  |[.string s,.string p],some (.glb 0 0 0 [.int .i64 m])=>some ([(10,some (.glb 0 0 0 [.int .i64 m]))],.int .i64 (ixS s p),[],0,Nat.blt s.size 4294967281)
  |_,_=>none
 ok:=fun vs h n pre v upd news hx=>by
  split at hx
  ·rename_i s p m hg
   simp only[Option.some.injEq,Prod.mk.injEq]at hx
   obtain⟨rfl,rfl,rfl,rfl,hs⟩:=hx
   refine⟨fun id hid=>?_,adet_plain n (by kernel_rfl) rfl (fun ρ=>.int _ _) fun ρ g w hr hp=>?_⟩
   ·simp only[fstL,List.mem_singleton]at hid
    subst hid;exact hg
   ·have hc:=glb_int hr (hp 10 (by simp[fstL])) (i:=0) rfl
    exact(Tryd.strings_Index _ _ m w (by rwa [Nat.blt_eq]at hs) hc).mono fun e w' h=>⟨h.1,below_eq h.2⟩
  ·cases hx
end Go.X
namespace Go.X
open Go Go.Proofs Go.RowKit
set_option linter.unusedVariables false
set_option linter.unusedSimpArgs false
theorem good_new {P:Program}{ρ:Rn}{g:G} {w w':World}{n:Nat}{l:L}{b:Blk} (h:RelH P ρ g w) (hn:ρ n=none) (hb:Below w.heap.size w w') (hl:w.heap.size ≤ l.addr.block) (hh:Holds P (rset ρ n l) w' l b) :
  GoodN P ρ g w n [(n,some b)] 1 (rset ρ n l) w':=by
 refine⟨le_rset l hn,fun id h0 h1=>?_,h.new hn (fun k hk=>hb.block k hk) hl hh,Fr.below _ hb,?_⟩
 ·by_cases e:id=n
  ·omega
  ·rw[rset_ne _ _ e]at h1;exact absurd h0 h1
 ·rintro k ⟨id,b',l',hg,hro,hl',rfl⟩
  by_cases e:id=n
  ·subst e
   rw[rset_same]at hl';cases hl'
   exact .inr hl
  ·have hg':gset g n (some b) id=some b':=hg
   rw[gset_ne _ _ e]at hg'
   rw[rset_ne _ _ e]at hl'
   exact .inl ⟨id,b',l',hg',hro,hl',rfl⟩
theorem good_ghost {P:Program}{ρ:Rn}{g:G} {w w':World}{n:Nat}{l:L} (h:RelH P ρ g w) (hn:ρ n=none) (hb:Below w.heap.size w w') :
  GoodN P ρ g w n [(n,none)] 1 (rset ρ n l) w':=by
 refine⟨le_rset l hn,fun id h0 h1=>?_,((h.below hb).up (le_rset l hn)).del n,Fr.below _ hb,?_⟩
 ·by_cases e:id=n
  ·omega
  ·rw[rset_ne _ _ e]at h1;exact absurd h0 h1
 ·rintro k ⟨id,b',l',hg,hro,hl',rfl⟩
  by_cases e:id=n
  ·subst e
   have hg':gset g id none id=some b':=hg
   rw[gset_same]at hg';cases hg'
  ·have hg':gset g n none id=some b':=hg
   rw[gset_ne _ _ e]at hg'
   rw[rset_ne _ _ e]at hl'
   exact .inl ⟨id,b',l',hg',hro,hl',rfl⟩
theorem case_size:Lib.caseA.size=336:=by kernel_rfl
theorem case_of {P:Program}{ρ:Rn}{g:G}{w:World}{R oR cap:Nat}{xs:List Value} (h:RelH P ρ g w) (h1:g 12=some (.glb 2 0 0 [.slice (some ⟨13,0,none⟩) 336 cap])) (h2:g 13=some (.glb R oR 4 xs)):Lib.CaseVar 2 Lib.caseA w:=by
 obtain⟨l,hl,ha,_⟩:=glb_at h h2
 obtain⟨_,_,_,hc⟩:=glb_at h h1
 obtain⟨u,hu,hv⟩:=hc 0 _ rfl
 cases hv with
 |slc hl' =>
  rw[hl]at hl';cases hl'
  rw[Nat.zero_mul,Nat.zero_add,ha]at hu
  refine⟨R,oR,_,by rw[case_size];exact hu,fun i hi=>?_⟩
  have hi':i<Lib.caseT.length:=by simpa [Lib.caseA]using hi
  have hx:Lib.caseT[i]?=some (Lib.caseA.getD i (0,0,0,0,0)):=by simp[Lib.caseA,Array.getD,hi']
  have k:∀ j q z,j<5 → (Lib.cells5 (Lib.caseA.getD i (0,0,0,0,0)))[j]?=some (.int q z) → w.cell? ⟨R,oR+i*5+j,none⟩=some (.int q z):=fun j q z hj e=>by
   rw[Nat.add_assoc]
   exact glb_int h h2 (show(Lib.caseT.flatMap Lib.cells5)[i*5+j]?=_ from (Lib.flat5 Lib.caseT i _ hx j hj).trans e)
  exact⟨k 0 _ _ (by omega) rfl,k 1 _ _ (by omega) rfl,k 2 _ _ (by omega) rfl,k 3 _ _ (by omega) rfl,k 4 _ _ (by omega) rfl⟩
theorem flat2 (a b:Nat → Value):∀ (l:List Nat) (i x:Nat),l[i]?=some x → (l.flatMap fun i=>[a i,b i])[2*i]?=some (a x) ∧ (l.flatMap fun i=>[a i,b i])[2*i+1]?=some (b x)
 |[],i,x,h=>by simp at h
 |y :: t,0,x,h=>by simp at h;subst h;exact⟨rfl,rfl⟩
 |y :: t,i+1,x,h=>by
  simp at h
  have:=flat2 a b t i x h
  rw[List.flatMap_cons,show 2*(i+1)=2*i+2 by omega,show 2*i+2+1=2*i+1+2 by omega]
  simpa using this
theorem utf8_of {P:Program}{ρ:Rn}{g:G}{w:World}{xs ys:List Value} (h:RelH P ρ g w) (h1:g 14=some (.glb 6 0 2 xs)) (h2:g 15=some (.glb 7 0 3 ys)):Lib.Utf8Tabs 6 7 w:=by
 refine⟨fun c hc=>?_,fun i hi=>?_⟩
 ·have:=glb_int (i:=c) (q:=.u8) (z:=(Lib.firstT c:Int)) h h1 (by simp[tabOf,hc])
  rwa [Nat.zero_add]at this
 ·have e:=flat2 (fun i=>.int .u8 (Lib.accLo i)) (fun i=>.int .u8 (Lib.accHi i)) (List.range 16) i i (by simp[hi])
  have a:=glb_int h h2 (show(tabOf 3 ys)[2*i]?=_ from e.1)
  have b:=glb_int h h2 (show(tabOf 3 ys)[2*i+1]?=_ from e.2)
  rw[Nat.zero_add]at a b
  exact⟨a,b⟩
theorem space_of {P:Program}{ρ:Rn}{g:G}{w:World}{xs:List Value} (h:RelH P ρ g w) (h1:g 11=some (.glb 1 0 1 xs)):∀ c:Nat,c<256 → w.cell? ⟨1,c,none⟩=some (.int .u8 (if Lib.isSp (UInt8.ofNat c)then 1 else 0)):=fun c hc=>by
 have:=glb_int (i:=c) (q:=.u8) (z:=if Lib.isSp (UInt8.ofNat c)then 1 else 0) h h1 (by simp[tabOf,hc])
 rwa [Nat.zero_add]at this
end Go.X
