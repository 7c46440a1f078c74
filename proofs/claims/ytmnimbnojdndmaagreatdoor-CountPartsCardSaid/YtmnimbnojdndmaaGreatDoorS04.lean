/- State by state it is added up what is possible; no condition. -/
import Derived.Test.YtmnimbnojdndmaaGreatDoorS03
import Derived.Shelf.Strings.Builder1
import Derived.Shelf.Strings.Builder2
import Derived.Shelf.Strings.OnBuilder
import Derived.Shelf.Strings.Trim
import Derived.Shelf.Small.Utf8
import Derived.Shelf.Small.Bits
import Derived.Shelf.Small.Strs
import Derived.Shelf.Small.Wraps
import Derived.Shelf.Strings.BuilderF
import Derived.Shelf.Strings.BuilderK
import Derived.Shelf.Utf8.RuneCount
import Derived.Shelf.Strconv.Atoi
import Derived.Shelf.Strconv.Itoa0
import Derived.Shelf.Strconv.Itoa1
import Derived.Shelf.LaysM
import Derived.Shelf.Strconv.Itoa2
import Derived.Shelf.Strconv.Itoa3
import Derived.Shelf.Strings.Search1
import Derived.Shelf.Strings.Search2
import Derived.Shelf.Strings.Search3
import Derived.Shelf.Strings.Cut
import Derived.Shelf.Strings.Count
import Derived.Shelf.Strings.Shaped
import Derived.Shelf.Strings.Prefix
import Derived.Shelf.Strings.Split
import Derived.Shelf.Unicode.Latin
import Derived.Shelf.Unicode.Decode
import Derived.Shelf.Strings.Runes
import Derived.Shelf.Strings.RuneCount
import Derived.Shelf.Strings.AsciiSet
import Derived.Shelf.Bits.Mul64
import Derived.Shelf.Strings.Repeat
import Derived.Shelf.Unicode.DecodeSlow
import Derived.Shelf.Unicode.CaseLookup
import Derived.Shelf.Unicode.CaseConvert
import Derived.Shelf.Unicode.CaseTo
import Derived.Shelf.Unicode.CaseLaid
import Derived.Ground.Names2Prog
import Derived.Shelf.Slices.Clone
import Derived.Ground.SlgnProg
import Derived.Shelf.SlicesE.Equal
import Derived.Shelf.SlicesE.Clone
import Derived.Test.YtmnimbnojdndmaaGreatDoorProg
import Derived.Lib.QuietBelow
import Derived.Sort.WalkA6
import Derived.Sort.WalkB12
set_option maxRecDepth 100000
set_option maxHeartbeats 6400000
set_option linter.all false
namespace Go.Proofs
section
open Go.Shelf _root_.Go.Proofs.Tryz
def zLf {α:Type} {a:Option α} {b c:α} (h:a=some b) (k:b=c:=by kernel_rfl):a=some c:=h.trans (congrArg some k)
def Tryz.yT:Go.Shelf.Ren:=⟨fun|169=>113|n=>n,fun|70=>189|9=>9|0=>0|72=>191|37=>163|127=>266|3=>3|5=>5|n=>n,fun|n=>n⟩
def Tryz.YF:Go.Proofs.Lays.n169 prog Tryz.yT:={
 mixed:=by kernel_rfl
 f169:=zLf func113
 t0:=underlying0
 a0:=isAgg0
 z0:=sizeOf0
 v0:=zeroValue0
 t3:=underlying3
 a3:=isAgg3
 z3:=sizeOf3
 v3:=zeroValue3
 t9:=underlying9
 a9:=isAgg9
 z9:=sizeOf9
 v9:=zeroValue9
 t37:=underlying163
 a37:=isAgg163
 z37:=sizeOf163
 v37:=zeroValue163
 t70:=underlying189
 a70:=isAgg189
 z70:=sizeOf189
 v70:=zeroValue189
 t72:=underlying191
 a72:=isAgg191
 z72:=sizeOf191
 v72:=zeroValue191
 t127:=underlying266
 a127:=isAgg266
 z127:=sizeOf266
 v127:=zeroValue266 }
def Tryz.vP:Builder.Extra prog Tryz.yT:={
 sizeBuilder:=by kernel_rfl
 liesBuilder:=by kernel_rfl
 t5:=underlying5
 a5:=isAgg5
 z5:=sizeOf5
 v5:=zeroValue5
 infoByte:=by kernel_rfl
 cellsByte:=by kernel_rfl
 sizeByte:=by kernel_rfl
 neB5:=by decide }
def Tryz.yU:Go.Shelf.Ren:=⟨fun|158=>196|165=>200|166=>110|167=>229|169=>113|230=>230|203=>231|240=>157|241=>236|197=>248|118=>251|168=>252|270=>253|262=>254|276=>195|277=>262|260=>276|242=>279|313=>280|278=>296|274=>297|275=>298|n=>n,fun|9=>9|4=>4|3=>3|5=>5|72=>191|0=>0|76=>199|75=>134|107=>350|70=>189|20=>20|37=>163|127=>266|21=>21|105=>359|164=>317|162=>380|203=>302|119=>393|46=>110|139=>396|138=>395|51=>109|160=>397|208=>407|206=>405|80=>137|n=>n,fun|13=>2|3=>4|4=>5|n=>n⟩
def Tryz.YG:Go.Proofs.Lays.n158 prog Tryz.yU:={
 mixed:=by kernel_rfl
 f118:=zLf func251
 f158:=zLf func196
 f165:=zLf func200
 f166:=zLf func110
 f167:=zLf func229
 f168:=zLf func252
 f169:=zLf func113
 f197:=zLf func248
 f203:=zLf func231
 f230:=zLf func230
 f240:=zLf func157
 f241:=zLf func236
 f242:=zLf func279
 f260:=zLf func276
 f262:=zLf func254
 f270:=zLf func253
 f274:=zLf func297
 f275:=zLf func298
 f276:=zLf func195
 f277:=zLf func262
 f278:=zLf func296
 f313:=zLf func280
 t0:=underlying0
 a0:=isAgg0
 z0:=sizeOf0
 v0:=zeroValue0
 t3:=underlying3
 a3:=isAgg3
 z3:=sizeOf3
 v3:=zeroValue3
 t4:=underlying4
 a4:=isAgg4
 z4:=sizeOf4
 v4:=zeroValue4
 t5:=underlying5
 a5:=isAgg5
 z5:=sizeOf5
 v5:=zeroValue5
 t9:=underlying9
 a9:=isAgg9
 z9:=sizeOf9
 v9:=zeroValue9
 t20:=underlying20
 a20:=isAgg20
 z20:=sizeOf20
 v20:=zeroValue20
 t21:=underlying21
 a21:=isAgg21
 z21:=sizeOf21
 v21:=zeroValue21
 t37:=underlying163
 a37:=isAgg163
 z37:=sizeOf163
 v37:=zeroValue163
 t46:=underlying110
 a46:=isAgg110
 z46:=sizeOf110
 v46:=zeroValue110
 t51:=underlying109
 a51:=isAgg109
 z51:=sizeOf109
 v51:=zeroValue109
 t70:=underlying189
 a70:=isAgg189
 z70:=sizeOf189
 v70:=zeroValue189
 t72:=underlying191
 a72:=isAgg191
 z72:=sizeOf191
 v72:=zeroValue191
 t75:=underlying134
 a75:=isAgg134
 z75:=sizeOf134
 v75:=zeroValue134
 t76:=underlying199
 a76:=isAgg199
 z76:=sizeOf199
 v76:=zeroValue199
 t105:=underlying359
 a105:=isAgg359
 z105:=sizeOf359
 v105:=zeroValue359
 t107:=underlying350
 a107:=isAgg350
 z107:=sizeOf350
 v107:=zeroValue350
 t119:=underlying393
 a119:=isAgg393
 z119:=sizeOf393
 t127:=underlying266
 a127:=isAgg266
 z127:=sizeOf266
 v127:=zeroValue266
 t138:=underlying395
 a138:=isAgg395
 z138:=sizeOf395
 v138:=zeroValue395
 t139:=underlying396
 a139:=isAgg396
 z139:=sizeOf396
 v139:=zeroValue396
 t160:=underlying397
 a160:=isAgg397
 z160:=sizeOf397
 v160:=zeroValue397
 t162:=underlying380
 a162:=isAgg380
 z162:=sizeOf380
 v162:=zeroValue380
 t164:=underlying317
 a164:=isAgg317
 z164:=sizeOf317
 v164:=zeroValue317
 t203:=underlying302
 a203:=isAgg302
 z203:=sizeOf302
 v203:=zeroValue302
 t206:=underlying405
 a206:=isAgg405
 z206:=sizeOf405
 v206:=zeroValue405
 t208:=underlying407
 a208:=isAgg407
 z208:=sizeOf407
 v208:=zeroValue407
 g3:=by kernel_rfl
 g4:=by kernel_rfl
 g13:=by kernel_rfl }
def Tryz.vQ:Builder.Extra prog Tryz.yU:={
 sizeBuilder:=by kernel_rfl
 liesBuilder:=by kernel_rfl
 t5:=underlying5
 a5:=isAgg5
 z5:=sizeOf5
 v5:=zeroValue5
 infoByte:=by kernel_rfl
 cellsByte:=by kernel_rfl
 sizeByte:=by kernel_rfl
 neB5:=by decide }
open Go.RowKit in
def Tryz.strings_ToUpper_ascii (s:ByteArray) (w:World) (c:s.size<=140737488355328) (a:∀(j:Nat) (b:UInt8),s.data.toList[j]? = some b->b.toNat<128) :
 Calls prog 196 #[.string s] w λe w'=>e=.returned (.string ⟨(Lib.toUpperA s.data.toList).toArray⟩)/\Below w.heap.size w w':=Any.strings_ToUpper_ascii Tryz.YG Tryz.vQ s w c a
def Tryz.qB:Go.Shelf.Ren:=⟨fun|156=>160|165=>200|166=>110|169=>113|240=>157|241=>236|276=>195|277=>262|n=>n,fun|31=>242|9=>9|3=>3|4=>4|0=>0|20=>20|72=>191|76=>199|70=>189|37=>163|75=>134|127=>266|164=>317|5=>5|80=>137|n=>n,fun|n=>n⟩
def Tryz.Gz:Go.Proofs.Lays.n156 prog Tryz.qB:={
 mixed:=by kernel_rfl
 f156:=zLf func160
 f165:=zLf func200
 f166:=zLf func110
 f169:=zLf func113
 f240:=zLf func157
 f241:=zLf func236
 f276:=zLf func195
 f277:=zLf func262
 t0:=underlying0
 a0:=isAgg0
 z0:=sizeOf0
 v0:=zeroValue0
 t3:=underlying3
 a3:=isAgg3
 z3:=sizeOf3
 v3:=zeroValue3
 t4:=underlying4
 a4:=isAgg4
 z4:=sizeOf4
 v4:=zeroValue4
 t9:=underlying9
 a9:=isAgg9
 z9:=sizeOf9
 v9:=zeroValue9
 t20:=underlying20
 a20:=isAgg20
 z20:=sizeOf20
 v20:=zeroValue20
 t31:=underlying242
 a31:=isAgg242
 z31:=sizeOf242
 v31:=zeroValue242
 t37:=underlying163
 a37:=isAgg163
 z37:=sizeOf163
 v37:=zeroValue163
 t70:=underlying189
 a70:=isAgg189
 z70:=sizeOf189
 v70:=zeroValue189
 t72:=underlying191
 a72:=isAgg191
 z72:=sizeOf191
 v72:=zeroValue191
 t75:=underlying134
 a75:=isAgg134
 z75:=sizeOf134
 v75:=zeroValue134
 t76:=underlying199
 a76:=isAgg199
 z76:=sizeOf199
 v76:=zeroValue199
 t127:=underlying266
 a127:=isAgg266
 z127:=sizeOf266
 v127:=zeroValue266
 t164:=underlying317
 a164:=isAgg317
 z164:=sizeOf317
 v164:=zeroValue317 }
def Tryz.iU:Builder.Extra prog Tryz.qB:={
 sizeBuilder:=by kernel_rfl
 liesBuilder:=by kernel_rfl
 t5:=underlying5
 a5:=isAgg5
 z5:=sizeOf5
 v5:=zeroValue5
 infoByte:=by kernel_rfl
 cellsByte:=by kernel_rfl
 sizeByte:=by kernel_rfl
 neB5:=by decide }
open Go.RowKit in
def Tryz.strings_Join_none (a:Option Addr) (c:Nat) (b:ByteArray) (w:World) :
 Calls prog 160 #[.slice a 0 c,.string b] w λe w'=>e=.returned (.string ⟨#[]⟩)/\w'=w:=Any.strings_Join_none Tryz.Gz Tryz.iU a c b w
open Go.RowKit in
def Tryz.strings_Join (h o c:Nat) (d:List ByteArray) (a:ByteArray) (w:World) (b:∀(j:Nat) x,d[j]? = some x->w.cell? ⟨h,o+j,none⟩=some (.string x)) (i:h<w.heap.size) (k:d.length<=140737488355328) (f:d.length<=c) (g:(Lib.join (d.map (·.data.toList)) a.data.toList).length<=140737488355328) :
 Calls prog 160 #[.slice (some ⟨h,o,none⟩) d.length c,.string a] w λe w'=>e=.returned (.string ⟨(Lib.join (d.map (·.data.toList)) a.data.toList).toArray⟩)/\Below w.heap.size w w':=Any.strings_Join Tryz.Gz Tryz.iU h o c d a w b i k f g
def Tryz.Jm:Go.Shelf.Ren:=⟨fun|160=>187|232=>218|231=>217|227=>219|234=>221|233=>220|236=>223|235=>222|228=>247|271=>250|151=>249|197=>248|120=>278|152=>277|260=>276|137=>210|119=>295|224=>274|225=>273|217=>240|266=>266|n=>n,fun|9=>9|4=>4|3=>3|5=>5|117=>341|116=>340|0=>0|124=>344|21=>21|105=>359|46=>110|119=>393|139=>396|138=>395|n=>n,fun|3=>4|4=>5|n=>n⟩
def Tryz.YH:Go.Proofs.Lays.n160 prog Tryz.Jm:={
 mixed:=by kernel_rfl
 f119:=zLf func295
 f120:=zLf func278
 f137:=zLf func210
 f151:=zLf func249
 f152:=zLf func277
 f160:=zLf func187
 f197:=zLf func248
 f217:=zLf func240
 f224:=zLf func274
 f225:=zLf func273
 f227:=zLf func219
 f228:=zLf func247
 f231:=zLf func217
 f232:=zLf func218
 f233:=zLf func220
 f234:=zLf func221
 f235:=zLf func222
 f236:=zLf func223
 f260:=zLf func276
 f266:=zLf func266
 f271:=zLf func250
 t0:=underlying0
 a0:=isAgg0
 z0:=sizeOf0
 v0:=zeroValue0
 t3:=underlying3
 a3:=isAgg3
 z3:=sizeOf3
 v3:=zeroValue3
 t4:=underlying4
 a4:=isAgg4
 z4:=sizeOf4
 v4:=zeroValue4
 t5:=underlying5
 a5:=isAgg5
 z5:=sizeOf5
 v5:=zeroValue5
 t9:=underlying9
 a9:=isAgg9
 z9:=sizeOf9
 v9:=zeroValue9
 t21:=underlying21
 a21:=isAgg21
 z21:=sizeOf21
 v21:=zeroValue21
 t46:=underlying110
 a46:=isAgg110
 z46:=sizeOf110
 v46:=zeroValue110
 t105:=underlying359
 a105:=isAgg359
 z105:=sizeOf359
 v105:=zeroValue359
 t116:=underlying340
 a116:=isAgg340
 z116:=sizeOf340
 t117:=underlying341
 a117:=isAgg341
 z117:=sizeOf341
 v117:=zeroValue341
 t119:=underlying393
 a119:=isAgg393
 z119:=sizeOf393
 t124:=underlying344
 a124:=isAgg344
 z124:=sizeOf344
 v124:=zeroValue344
 t138:=underlying395
 a138:=isAgg395
 z138:=sizeOf395
 v138:=zeroValue395
 t139:=underlying396
 a139:=isAgg396
 z139:=sizeOf396
 v139:=zeroValue396
 g3:=by kernel_rfl
 g4:=by kernel_rfl }
open Go.RowKit in
def Tryz.strings_Trim_one (s:ByteArray) (c:UInt8) (a:c.toNat<128) (w:World) (b:s.size<=9223372036854775807) :
 Calls prog 187 #[.string s,.string ⟨#[c]⟩] w λe w'=>e=.returned (.string ⟨(Lib.trimB s.data.toList c).toArray⟩)/\(w'=w\/w'=w.drew):=Any.strings_Trim_one Tryz.YH s c a w b
def Tryz.Jn:Go.Shelf.Ren:=⟨fun|125=>99|128=>144|129=>145|n=>n,fun|46=>110|3=>3|51=>109|53=>47|4=>4|5=>5|9=>9|n=>n,fun|n=>n⟩
def Tryz.YI:Go.Proofs.Lays.n125 prog Tryz.Jn:={
 mixed:=by kernel_rfl
 f125:=zLf func99
 f128:=zLf func144
 f129:=zLf func145
 t3:=underlying3
 a3:=isAgg3
 z3:=sizeOf3
 v3:=zeroValue3
 t4:=underlying4
 a4:=isAgg4
 z4:=sizeOf4
 v4:=zeroValue4
 t5:=underlying5
 a5:=isAgg5
 z5:=sizeOf5
 v5:=zeroValue5
 t9:=underlying9
 a9:=isAgg9
 z9:=sizeOf9
 v9:=zeroValue9
 t46:=underlying110
 a46:=isAgg110
 z46:=sizeOf110
 v46:=zeroValue110
 t51:=underlying109
 a51:=isAgg109
 z51:=sizeOf109
 v51:=zeroValue109
 t53:=underlying47
 a53:=isAgg47
 z53:=sizeOf47
 v53:=zeroValue47 }
def Tryz.bits_Len (x:Int) (w:World) (h0:0<=x) (a:x<=18446744073709551615) :
 Calls prog 99 #[.int .u64 x] w λe w'=>e=.returned (.int .i64 (Lib.bitLen x.toNat))/\w'=w:=Any.bits_Len Tryz.YI x w h0 a
def Tryz.Jo:Go.Shelf.Ren:=⟨fun|137=>210|217=>240|266=>266|n=>n,fun|9=>9|5=>5|3=>3|n=>n,fun|n=>n⟩
def Tryz.YJ:Go.Proofs.Lays.n137 prog Tryz.Jo:={
 mixed:=by kernel_rfl
 f137:=zLf func210
 f217:=zLf func240
 f266:=zLf func266
 t3:=underlying3
 a3:=isAgg3
 z3:=sizeOf3
 v3:=zeroValue3
 t5:=underlying5
 a5:=isAgg5
 z5:=sizeOf5
 v5:=zeroValue5
 t9:=underlying9
 a9:=isAgg9
 z9:=sizeOf9
 v9:=zeroValue9 }
open Go.RowKit in
def Tryz.strings_IndexByte (s:ByteArray) (c:Int) (w:World) :
 Calls prog 210 #[.string s,.int .u8 c] w λe w'=>e=.returned (.int .i64 (Lib.indexByte s.data.toList c.toNat.toUInt8))/\w'=w:=Any.strings_IndexByte Tryz.YJ s c w
def Tryz.Jp:Go.Shelf.Ren:=⟨fun|104=>215|211=>245|207=>241|n=>n,fun|9=>9|4=>4|24=>336|3=>3|n=>n,fun|n=>n⟩
def Tryz.YK:Go.Proofs.Lays.n104 prog Tryz.Jp:={
 mixed:=by kernel_rfl
 f104:=zLf func215
 f207:=zLf func241
 f211:=zLf func245
 t3:=underlying3
 a3:=isAgg3
 z3:=sizeOf3
 v3:=zeroValue3
 t4:=underlying4
 a4:=isAgg4
 z4:=sizeOf4
 v4:=zeroValue4
 t9:=underlying9
 a9:=isAgg9
 z9:=sizeOf9
 v9:=zeroValue9
 t24:=underlying336
 a24:=isAgg336
 z24:=sizeOf336
 v24:=zeroValue336 }
open Go.RowKit in
def Tryz.strings_CutSuffix (s p:ByteArray) (w:World) (a:s.size<=9223372036854775807) :
 Calls prog 215 #[.string s,.string p] w λe w'=>e=.returned (.tuple #[.string ⟨(Lib.trimSuffix s.data.toList p.data.toList).toArray⟩,.bool (Lib.hasSuffix s.data.toList p.data.toList)])/\w'=w:=Any.strings_CutSuffix Tryz.YK s p w a
def Tryz.Jq:Go.Shelf.Ren:=⟨fun|172=>243|244=>270|245=>271|247=>288|279=>289|280=>290|281=>291|282=>292|287=>302|316=>303|171=>159|205=>304|321=>306|322=>307|243=>199|246=>232|283=>255|284=>256|285=>257|286=>258|129=>145|317=>281|318=>282|319=>283|320=>284|337=>299|338=>300|n=>n,fun|9=>9|3=>3|75=>134|76=>199|4=>4|5=>5|167=>385|37=>163|0=>0|85=>386|2=>2|168=>388|53=>47|175=>400|46=>110|210=>403|127=>266|145=>413|143=>411|21=>21|171=>364|173=>366|212=>382|51=>109|20=>20|213=>383|232=>408|233=>409|80=>137|n=>n,fun|15=>6|16=>7|17=>3|18=>8|19=>9|n=>n⟩
def Tryz.YL:Go.Proofs.Lays.n172 prog Tryz.Jq:={
 mixed:=by kernel_rfl
 f129:=zLf func145
 f171:=zLf func159
 f172:=zLf func243
 f205:=zLf func304
 f243:=zLf func199
 f244:=zLf func270
 f245:=zLf func271
 f246:=zLf func232
 f247:=zLf func288
 f279:=zLf func289
 f280:=zLf func290
 f281:=zLf func291
 f282:=zLf func292
 f283:=zLf func255
 f284:=zLf func256
 f285:=zLf func257
 f286:=zLf func258
 f287:=zLf func302
 f316:=zLf func303
 f317:=zLf func281
 f318:=zLf func282
 f319:=zLf func283
 f320:=zLf func284
 f321:=zLf func306
 f322:=zLf func307
 f337:=zLf func299
 f338:=zLf func300
 t0:=underlying0
 a0:=isAgg0
 z0:=sizeOf0
 v0:=zeroValue0
 t2:=underlying2
 a2:=isAgg2
 z2:=sizeOf2
 v2:=zeroValue2
 t3:=underlying3
 a3:=isAgg3
 z3:=sizeOf3
 v3:=zeroValue3
 t4:=underlying4
 a4:=isAgg4
 z4:=sizeOf4
 v4:=zeroValue4
 t5:=underlying5
 a5:=isAgg5
 z5:=sizeOf5
 v5:=zeroValue5
 t9:=underlying9
 a9:=isAgg9
 z9:=sizeOf9
 v9:=zeroValue9
 t20:=underlying20
 a20:=isAgg20
 z20:=sizeOf20
 v20:=zeroValue20
 t21:=underlying21
 a21:=isAgg21
 z21:=sizeOf21
 v21:=zeroValue21
 t37:=underlying163
 a37:=isAgg163
 z37:=sizeOf163
 v37:=zeroValue163
 t46:=underlying110
 a46:=isAgg110
 z46:=sizeOf110
 v46:=zeroValue110
 t51:=underlying109
 a51:=isAgg109
 z51:=sizeOf109
 v51:=zeroValue109
 t53:=underlying47
 a53:=isAgg47
 z53:=sizeOf47
 v53:=zeroValue47
 t75:=underlying134
 a75:=isAgg134
 z75:=sizeOf134
 v75:=zeroValue134
 t76:=underlying199
 a76:=isAgg199
 z76:=sizeOf199
 v76:=zeroValue199
 t85:=underlying386
 a85:=isAgg386
 z85:=sizeOf386
 v85:=zeroValue386
 t127:=underlying266
 a127:=isAgg266
 z127:=sizeOf266
 v127:=zeroValue266
 t143:=underlying411
 a143:=isAgg411
 z143:=sizeOf411
 v143:=zeroValue411
 t145:=underlying413
 a145:=isAgg413
 z145:=sizeOf413
 v145:=zeroValue413
 t167:=underlying385
 a167:=isAgg385
 z167:=sizeOf385
 v167:=zeroValue385
 t168:=underlying388
 a168:=isAgg388
 z168:=sizeOf388
 v168:=zeroValue388
 t171:=underlying364
 a171:=isAgg364
 z171:=sizeOf364
 v171:=zeroValue364
 t173:=underlying366
 a173:=isAgg366
 z173:=sizeOf366
 v173:=zeroValue366
 t175:=underlying400
 a175:=isAgg400
 z175:=sizeOf400
 v175:=zeroValue400
 t210:=underlying403
 a210:=isAgg403
 z210:=sizeOf403
 v210:=zeroValue403
 t212:=underlying382
 a212:=isAgg382
 z212:=sizeOf382
 v212:=zeroValue382
 t213:=underlying383
 a213:=isAgg383
 z213:=sizeOf383
 t232:=underlying408
 a232:=isAgg408
 z232:=sizeOf408
 v232:=zeroValue408
 t233:=underlying409
 a233:=isAgg409
 z233:=sizeOf409
 v233:=zeroValue409
 g15:=by kernel_rfl
 g16:=by kernel_rfl
 g17:=by kernel_rfl
 g18:=by kernel_rfl
 g19:=by kernel_rfl }
open Go.RowKit in
def Tryz.strconv_Atoi (s:ByteArray) (n:Int) (a:s.size<=18) (h:Lib.atoi s.data.toList=some n) (w:World) :
 Calls prog 243 #[.string s] w λe w'=>e=.returned (.tuple #[.int .i64 n,.nilIface])/\∃t,w'=Lib.bytesWorld w 5 t:=Any.strconv_Atoi Tryz.YL s n a h w
def Tryz.GA:Go.Shelf.Ren:=⟨fun|171=>159|243=>199|246=>232|283=>255|284=>256|285=>257|286=>258|129=>145|317=>281|318=>282|319=>283|320=>284|337=>299|338=>300|n=>n,fun|3=>3|9=>9|2=>2|4=>4|171=>364|0=>0|53=>47|37=>163|5=>5|173=>366|212=>382|51=>109|20=>20|213=>383|46=>110|232=>408|233=>409|n=>n,fun|17=>3|18=>8|19=>9|n=>n⟩
def Tryz.UH:Go.Proofs.LaysM.n171 prog Tryz.GA:={
 mixed:=by kernel_rfl
 f129:=zLf func145
 f171:=zLf func159
 f243:=zLf func199
 f246:=zLf func232
 f283:=zLf func255
 f284:=zLf func256
 f285:=zLf func257
 f286:=zLf func258
 f317:=zLf func281
 f318:=zLf func282
 f319:=zLf func283
 f320:=zLf func284
 f337:=zLf func299
 f338:=zLf func300
 t0:=underlying0
 a0:=isAgg0
 z0:=sizeOf0
 v0:=zeroValue0
 t2:=underlying2
 a2:=isAgg2
 z2:=sizeOf2
 v2:=zeroValue2
 t3:=underlying3
 a3:=isAgg3
 z3:=sizeOf3
 v3:=zeroValue3
 t4:=underlying4
 a4:=isAgg4
 z4:=sizeOf4
 v4:=zeroValue4
 t5:=underlying5
 a5:=isAgg5
 z5:=sizeOf5
 v5:=zeroValue5
 t9:=underlying9
 a9:=isAgg9
 z9:=sizeOf9
 v9:=zeroValue9
 t20:=underlying20
 a20:=isAgg20
 z20:=sizeOf20
 v20:=zeroValue20
 t37:=underlying163
 a37:=isAgg163
 z37:=sizeOf163
 v37:=zeroValue163
 t46:=underlying110
 a46:=isAgg110
 z46:=sizeOf110
 v46:=zeroValue110
 t51:=underlying109
 a51:=isAgg109
 z51:=sizeOf109
 v51:=zeroValue109
 t53:=underlying47
 a53:=isAgg47
 z53:=sizeOf47
 v53:=zeroValue47
 t171:=underlying364
 a171:=isAgg364
 z171:=sizeOf364
 v171:=zeroValue364
 t173:=underlying366
 a173:=isAgg366
 z173:=sizeOf366
 v173:=zeroValue366
 t212:=underlying382
 a212:=isAgg382
 z212:=sizeOf382
 v212:=zeroValue382
 t213:=underlying383
 a213:=isAgg383
 z213:=sizeOf383
 t232:=underlying408
 a232:=isAgg408
 z232:=sizeOf408
 v232:=zeroValue408
 t233:=underlying409
 a233:=isAgg409
 z233:=sizeOf409
 v233:=zeroValue409
 g17:=by kernel_rfl
 g18:=by kernel_rfl
 g19:=by kernel_rfl
 i0:=by kernel_rfl
 i2:=by kernel_rfl
 i3:=by kernel_rfl
 i4:=by kernel_rfl
 i5:=by kernel_rfl
 i9:=by kernel_rfl
 i20:=by kernel_rfl
 i37:=by kernel_rfl
 i46:=by kernel_rfl
 i51:=by kernel_rfl
 i53:=by kernel_rfl
 i171:=by kernel_rfl
 i173:=by kernel_rfl
 i212:=by kernel_rfl
 i232:=by kernel_rfl
 i233:=by kernel_rfl
 m17:=by kernel_rfl
 m18:=by kernel_rfl
 m19:=by kernel_rfl }
open Go.RowKit Go.Sort Go.Lib in
theorem Tryz.strconv_Itoa (n:Int) (h0:-9223372036854775808<=n) (h1:n<=9223372036854775807) (w:World) (htab:Lib.TabIs prog w "internal/strconv.uint64pow10" .u64 Lib.pow10Tab) :
 Calls prog 159 #[.int .i64 n] w fun e w'=>e=.returned (.string ⟨(Lib.itoa n).toArray⟩)∧∃k os,w'=grow (w.drewN k) os:=Any.strconv_Itoa Tryz.UH n h0 h1 w htab
def Tryz.Jr:Go.Shelf.Ren:=⟨fun|143=>269|219=>246|217=>240|225=>273|224=>274|267=>275|266=>266|314=>294|n=>n,fun|9=>9|3=>3|4=>4|5=>5|46=>110|146=>368|51=>109|n=>n,fun|1=>1|n=>n⟩
def Tryz.YM:Go.Proofs.Lays.n143 prog Tryz.Jr:={
 mixed:=by kernel_rfl
 f143:=zLf func269
 f217:=zLf func240
 f219:=zLf func246
 f224:=zLf func274
 f225:=zLf func273
 f266:=zLf func266
 f267:=zLf func275
 f314:=zLf func294
 t3:=underlying3
 a3:=isAgg3
 z3:=sizeOf3
 v3:=zeroValue3
 t4:=underlying4
 a4:=isAgg4
 z4:=sizeOf4
 v4:=zeroValue4
 t5:=underlying5
 a5:=isAgg5
 z5:=sizeOf5
 v5:=zeroValue5
 t9:=underlying9
 a9:=isAgg9
 z9:=sizeOf9
 v9:=zeroValue9
 t46:=underlying110
 a46:=isAgg110
 z46:=sizeOf110
 v46:=zeroValue110
 t51:=underlying109
 a51:=isAgg109
 z51:=sizeOf109
 v51:=zeroValue109
 t146:=underlying368
 a146:=isAgg368
 z146:=sizeOf368
 v146:=zeroValue368
 g1:=by kernel_rfl }
open Go.RowKit Go.Lib in
def Tryz.strings_Index_one (s:ByteArray) (c:UInt8) (w:World) :
 Calls prog 269 #[.string s,.string ⟨#[c]⟩] w λe w'=>e=.returned (.int .i64 (Lib.indexByte s.data.toList c))/\w'=w:=Any.strings_Index_one Tryz.YM s c w
def Tryz.Js:Go.Shelf.Ren:=⟨fun|145=>186|220=>216|219=>246|217=>240|225=>273|224=>274|267=>275|266=>266|314=>294|n=>n,fun|9=>9|4=>4|59=>300|3=>3|5=>5|46=>110|146=>368|51=>109|n=>n,fun|1=>1|n=>n⟩
def Tryz.YN:Go.Proofs.Lays.n145 prog Tryz.Js:={
 mixed:=by kernel_rfl
 f145:=zLf func186
 f217:=zLf func240
 f219:=zLf func246
 f220:=zLf func216
 f224:=zLf func274
 f225:=zLf func273
 f266:=zLf func266
 f267:=zLf func275
 f314:=zLf func294
 t3:=underlying3
 a3:=isAgg3
 z3:=sizeOf3
 v3:=zeroValue3
 t4:=underlying4
 a4:=isAgg4
 z4:=sizeOf4
 v4:=zeroValue4
 t5:=underlying5
 a5:=isAgg5
 z5:=sizeOf5
 v5:=zeroValue5
 t9:=underlying9
 a9:=isAgg9
 z9:=sizeOf9
 v9:=zeroValue9
 t46:=underlying110
 a46:=isAgg110
 z46:=sizeOf110
 v46:=zeroValue110
 t51:=underlying109
 a51:=isAgg109
 z51:=sizeOf109
 v51:=zeroValue109
 t59:=underlying300
 a59:=isAgg300
 z59:=sizeOf300
 v59:=zeroValue300
 t146:=underlying368
 a146:=isAgg368
 z146:=sizeOf368
 v146:=zeroValue368
 g1:=by kernel_rfl }
open Go.RowKit Go.Lib in
def Tryz.strings_Cut (s a:ByteArray) (m:Int) (w:World) (c:s.size<4294967281) (b:w.cell? ⟨1,0,none⟩=some (.int .i64 m)) :
 Calls prog 186 #[.string s,.string a] w λe w'=>e=.returned (.tuple #[.string ⟨(Lib.cut s.data.toList a.data.toList).1.toArray⟩,.string ⟨(Lib.cut s.data.toList a.data.toList).2.1.toArray⟩,.bool (Lib.cut s.data.toList a.data.toList).2.2])/\∃n,w'=w.drewN n:=Any.strings_Cut Tryz.YN s a m w c b
def Tryz.Jt:Go.Shelf.Ren:=⟨fun|102=>180|209=>211|207=>241|n=>n,fun|9=>9|4=>4|3=>3|n=>n,fun|n=>n⟩
def Tryz.YO:Go.Proofs.Lays.n102 prog Tryz.Jt:={
 mixed:=by kernel_rfl
 f102:=zLf func180
 f207:=zLf func241
 f209:=zLf func211
 t3:=underlying3
 a3:=isAgg3
 z3:=sizeOf3
 v3:=zeroValue3
 t4:=underlying4
 a4:=isAgg4
 z4:=sizeOf4
 v4:=zeroValue4
 t9:=underlying9
 a9:=isAgg9
 z9:=sizeOf9
 v9:=zeroValue9 }
open Go.RowKit Go.Lib in
def Tryz.strings_TrimSuffix (s p:ByteArray) (w:World) (a:s.size<=9223372036854775807) :
 Calls prog 180 #[.string s,.string p] w λe w'=>e=.returned (.string ⟨(Lib.trimSuffix s.data.toList p.data.toList).toArray⟩)/\w'=w:=Any.strings_TrimSuffix Tryz.YO s p w a
def Tryz.Ju:Go.Shelf.Ren:=⟨fun|146=>212|221=>242|268=>267|138=>268|143=>269|195=>286|197=>248|218=>287|219=>246|260=>276|217=>240|225=>273|224=>274|267=>275|266=>266|314=>294|n=>n,fun|9=>9|31=>242|3=>3|4=>4|0=>0|105=>359|21=>21|5=>5|46=>110|119=>393|139=>396|138=>395|146=>368|51=>109|n=>n,fun|1=>1|3=>4|4=>5|n=>n⟩
def Tryz.YP:Go.Proofs.Lays.n146 prog Tryz.Ju:={
 mixed:=by kernel_rfl
 f138:=zLf func268
 f143:=zLf func269
 f146:=zLf func212
 f195:=zLf func286
 f197:=zLf func248
 f217:=zLf func240
 f218:=zLf func287
 f219:=zLf func246
 f221:=zLf func242
 f224:=zLf func274
 f225:=zLf func273
 f260:=zLf func276
 f266:=zLf func266
 f267:=zLf func275
 f268:=zLf func267
 f314:=zLf func294
 t0:=underlying0
 a0:=isAgg0
 z0:=sizeOf0
 v0:=zeroValue0
 t3:=underlying3
 a3:=isAgg3
 z3:=sizeOf3
 v3:=zeroValue3
 t4:=underlying4
 a4:=isAgg4
 z4:=sizeOf4
 v4:=zeroValue4
 t5:=underlying5
 a5:=isAgg5
 z5:=sizeOf5
 v5:=zeroValue5
 t9:=underlying9
 a9:=isAgg9
 z9:=sizeOf9
 v9:=zeroValue9
 t21:=underlying21
 a21:=isAgg21
 z21:=sizeOf21
 v21:=zeroValue21
 t31:=underlying242
 a31:=isAgg242
 z31:=sizeOf242
 v31:=zeroValue242
 t46:=underlying110
 a46:=isAgg110
 z46:=sizeOf110
 v46:=zeroValue110
 t51:=underlying109
 a51:=isAgg109
 z51:=sizeOf109
 v51:=zeroValue109
 t105:=underlying359
 a105:=isAgg359
 z105:=sizeOf359
 v105:=zeroValue359
 t119:=underlying393
 a119:=isAgg393
 z119:=sizeOf393
 t138:=underlying395
 a138:=isAgg395
 z138:=sizeOf395
 v138:=zeroValue395
 t139:=underlying396
 a139:=isAgg396
 z139:=sizeOf396
 v139:=zeroValue396
 t146:=underlying368
 a146:=isAgg368
 z146:=sizeOf368
 v146:=zeroValue368
 g1:=by kernel_rfl
 g3:=by kernel_rfl
 g4:=by kernel_rfl }
open Go.RowKit Go.Lib in
def Tryz.strings_Split (s a:ByteArray) (m:Int) (w:World) (d:s.size<4294967281) (c:w.cell? ⟨1,0,none⟩=some (.int .i64 m)) (b:1<=a.size) :
 Calls prog 212 #[.string s,.string a] w λe w'=>
  e=.returned (.slice (some ⟨w.heap.size,0,none⟩) (Lib.countB s a+1) (Lib.countB s a+1))/\w'=w.alloc (.cells ((Lib.splitB a 0 (Lib.countB s a) s).map Value.string).toArray 9):=Any.strings_Split Tryz.YP (by kernel_rfl) s a m w d c b
def Tryz.yV:Go.Shelf.Ren:=⟨fun|105=>198|212=>233|99=>234|165=>200|166=>110|170=>235|169=>113|263=>259|264=>260|206=>261|240=>157|241=>236|276=>195|277=>262|n=>n,fun|9=>9|3=>3|4=>4|20=>20|0=>0|46=>110|109=>351|5=>5|72=>191|76=>199|51=>109|146=>368|53=>47|148=>370|70=>189|37=>163|75=>134|127=>266|164=>317|80=>137|n=>n,fun|n=>n⟩
def Tryz.YQ:Go.Proofs.Lays.n105 prog Tryz.yV:={
 mixed:=by kernel_rfl
 f99:=zLf func234
 f105:=zLf func198
 f165:=zLf func200
 f166:=zLf func110
 f169:=zLf func113
 f170:=zLf func235
 f206:=zLf func261
 f212:=zLf func233
 f240:=zLf func157
 f241:=zLf func236
 f263:=zLf func259
 f264:=zLf func260
 f276:=zLf func195
 f277:=zLf func262
 t0:=underlying0
 a0:=isAgg0
 z0:=sizeOf0
 v0:=zeroValue0
 t3:=underlying3
 a3:=isAgg3
 z3:=sizeOf3
 v3:=zeroValue3
 t4:=underlying4
 a4:=isAgg4
 z4:=sizeOf4
 v4:=zeroValue4
 t5:=underlying5
 a5:=isAgg5
 z5:=sizeOf5
 v5:=zeroValue5
 t9:=underlying9
 a9:=isAgg9
 z9:=sizeOf9
 v9:=zeroValue9
 t20:=underlying20
 a20:=isAgg20
 z20:=sizeOf20
 v20:=zeroValue20
 t37:=underlying163
 a37:=isAgg163
 z37:=sizeOf163
 v37:=zeroValue163
 t46:=underlying110
 a46:=isAgg110
 z46:=sizeOf110
 v46:=zeroValue110
 t51:=underlying109
 a51:=isAgg109
 z51:=sizeOf109
 v51:=zeroValue109
 t53:=underlying47
 a53:=isAgg47
 z53:=sizeOf47
 v53:=zeroValue47
 t70:=underlying189
 a70:=isAgg189
 z70:=sizeOf189
 v70:=zeroValue189
 t72:=underlying191
 a72:=isAgg191
 z72:=sizeOf191
 v72:=zeroValue191
 t75:=underlying134
 a75:=isAgg134
 z75:=sizeOf134
 v75:=zeroValue134
 t76:=underlying199
 a76:=isAgg199
 z76:=sizeOf199
 v76:=zeroValue199
 t109:=underlying351
 a109:=isAgg351
 z109:=sizeOf351
 v109:=zeroValue351
 t127:=underlying266
 a127:=isAgg266
 z127:=sizeOf266
 v127:=zeroValue266
 t146:=underlying368
 a146:=isAgg368
 z146:=sizeOf368
 v146:=zeroValue368
 t148:=underlying370
 a148:=isAgg370
 z148:=sizeOf370
 v148:=zeroValue370
 t164:=underlying317
 a164:=isAgg317
 z164:=sizeOf317
 v164:=zeroValue317 }
def Tryz.vR:Builder.Extra prog Tryz.yV:={
 sizeBuilder:=by kernel_rfl
 liesBuilder:=by kernel_rfl
 t5:=underlying5
 a5:=isAgg5
 z5:=sizeOf5
 v5:=zeroValue5
 infoByte:=by kernel_rfl
 cellsByte:=by kernel_rfl
 sizeByte:=by kernel_rfl
 neB5:=by decide }
open Go.RowKit Go.Lib in
def Tryz.strings_Repeat (s:ByteArray) (c:Nat) (w:World) (b:c<=9223372036854775807) (a:s.size*c<=140737488355328) :
 Calls prog 198 #[.string s,.int .i64 c] w λe w'=>e=.returned (.string ⟨(Lib.repeatL s.data.toList c).toArray⟩)/\Below w.heap.size w w':=Any.strings_Repeat Tryz.YQ Tryz.vR s c w b a
def Tryz.Dz:Go.Shelf.Ren:=⟨fun|15=>103|n=>n,fun|22=>23|3=>3|4=>4|n=>n,fun|n=>n⟩
def Tryz.xK:Go.Proofs.Lays2.n15 prog Tryz.Dz:={
 mixed:=by kernel_rfl
 f15:=zLf func103
 t3:=underlying3
 a3:=isAgg3
 z3:=sizeOf3
 v3:=zeroValue3
 t4:=underlying4
 a4:=isAgg4
 z4:=sizeOf4
 v4:=zeroValue4
 t22:=underlying23
 a22:=isAgg23
 z22:=sizeOf23
 v22:=zeroValue23
 i3:=by kernel_rfl }
open Go.RowKit Go.Lib in
def Tryz.slices_Clone_int (b off n c:Nat) (zs:List Int) (w:World) (f:n<=zs.length) (a:n*8<=140737488355328) (d:∀j,j<zs.length->w.cell? ⟨b,off+j,none⟩=some (.int .i64 (zs.getD j 0))) :
 Calls prog 103 #[.slice (some ⟨b,off,none⟩) n c] w λe w'=>∃v',e=.returned v'/\w'.ownsRow w.heap.size 3 1 v' n ((zs.take n).map (Value.int .i64))/\v'≠.slice none 0 0/\Below w.heap.size w w':=Any.slices_Clone_int Tryz.xK b off n c zs w f a d
open Go.RowKit Go.Lib in
def Tryz.slices_Clone_int_nil (n c:Nat) (w:World) :
 Calls prog 103 #[.slice none n c] w λe w'=>e=.returned (.slice none 0 0)/\w'=w:=Any.slices_Clone_int_nil Tryz.xK n c w
open Go.RowKit Go.Lib in
def Tryz.slices_Clone_int_zero (a:Addr) (c:Nat) (w:World) :
 Calls prog 103 #[.slice (some a) 0 c] w λe w'=>∃v',e=.returned v'/\w'.ownsRow w.heap.size 3 1 v' 0 []/\v'≠.slice none 0 0/\Below w.heap.size w w':=Any.slices_Clone_int_zero Tryz.xK a c w
end
end Go.Proofs
namespace Go.Proofs.YtmnimbnojdndmaaGreatDoor
open Go.RowKit Go.Cd _root_.Go.Proofs.Tryz
def EZ (l:List Nat) (d:Nat):mD 0 (l++[d])=mD 0 l*16+d:=by rw[qI];rfl
def Qh:∀(l:List Nat) (v:Nat),(∀d∈l,d<16)->mD v l<(v+1)*16 ^ l.length
 | [],v,_=>by simp[mD]
 | d::l,v,h=>by
   have a:=Qh l (v*16+d) λx b=>h x (kq _ b);have:=h d (nF ..);show mD (v*16+d) l<_;refine kh a ?_;rw[im,my,m_ (16 ^ l.length) 16,<-qu];exact m9 _ (by omega)
def toUInt8_toNat (b:UInt8):b.toNat.toUInt8=b:=by simp
def qJ {w:World} (c:Nat) (K:c<1114112) :
 Calls prog 188 #[.string (tx (aV c))] w λe w'=>e=.returned (.tuple #[.int .i32 c,.bool true])/\w'=w:=by
 obtain⟨s,g⟩:=ae (tx (aV c));obtain⟨a,m⟩:=ae (g_ (j6 c) c);have y:aV c=a.map lJ:=by rw[m];exact lK _ _
 have l:∀d∈a,d<16:=by rw[m];exact nZ _ _
 have o:mD 0 a=c:=by rw[m];exact Bc _ _ (UX K)
 obtain⟨n,x⟩:=ae a.length;have E:s.size=n:=by rw[g,aX,y,iz,x]
 have O:4<=n/\n<=6:=by
  have:=bU c;rw[y,iz,<-x] at this;exact this
 have k:0<s.size:=by omega
 have q:4<n->(s[0]'k).toNat≠48:=by
  intro H e;subst g;rw[EW] at e;have h:=Rh K (by rw[y,iz,<-x];exact H) ((aV c)[0]'(by rwa [aX] at k)) (gx _);apply h;rw[<-UInt8.toNat_inj];exact e
 have u:=aa (show ∀(W:World) (j:Nat) (t:j<s.size) (C:j<a.length),Calls prog 210 #[.string ⟨#[48,49,50,51,52,53,54,55,56,57,65,66,67,68,69,70]⟩,.int .u8 ((s[j]'t).toNat:Int)] W λe w'=>e=.returned (.int .i64 (a[j]:Nat))/\w'=W from λW j t C=>by
  have h:=Tryz.strings_IndexByte ⟨#[48,49,50,51,52,53,54,55,56,57,65,66,67,68,69,70]⟩ ((s[j]'t).toNat:Int) W;have r:(((s[j]'t).toNat:Int)).toNat.toUInt8=lJ a[j]:=by
   rw[pw,toUInt8_toNat];subst g;rw[EW];simp only[y,m8]
  rw[r,show(⟨#[48,49,50,51,52,53,54,55,56,57,65,66,67,68,69,70]⟩:ByteArray).data.toList=UY from rfl,Ac _ (l _ (gw _))] at h
  exact h)
 have I:=aa (show ∀j,mD 0 (a.take j)<16777216 from λj=>by
  have:=Qh (a.take j) 0 λd hd=>l d (rj hd);have U:(16:Nat) ^ (a.take j).length<=16 ^ 6:=kj (by decide) (by rw[jn];omega);have T:(16:Nat) ^ 6=16777216:=by decide
  omega)
 have v:=aa o;have J:=aa l;have A:=aa x;have X:=aa E;rw[<-g];clear g m y l o x;go_enter func188,ntmps188;by_cases H:4<n
 ·obtain⟨B,i⟩:∃B:Nat,B=(s[0]'k).toNat:=⟨_,rfl⟩;have S:((s[0]'k).toNat:Int)=(B:Int):=by rw[i]
  have L:((B:Int)==48)=false:=by have:=q H;rw[<-i] at this;simp;omega
  clear q i;go_wp2_with fail;go_loopw [4,27] (λnv p wr=>∃j:Nat,j<=n/\p=.int .i64 j/\nv=.int .i64 ((mD 0 (a.take j):Nat):Int)/\wr=w) (λ_ p _=>n-(intOf p).toNat)
  case atStart=>exact⟨0,ic _,rfl,rfl,(by first|rfl|trivial)⟩
  case round=>
   obtain⟨j,t,rfl,rfl,rfl⟩:=hrel;by_cases G:j<n
   ·have f:j<s.size:=by omega
    have b:j<a.length:=by have:=A.out;omega
    have z:=aa (λW=>u.out W j f b);have hd:=J.out _ (gw b);have F:=aa (show mD 0 (a.take (j+1))=mD 0 (a.take j)*16+a[j] by rw[gR b,EZ]);have R:=I.out j;generalize a[j]=d at *;generalize mD 0 (a.take j)=V at *;obtain⟨B,i⟩:∃B:Nat,B=(s[j]'f).toNat:=⟨_,rfl⟩;rw[<-i] at z;have Q:((s[j]'f).toNat:Int)=(B:Int):=by rw[i]
    clear i;go_wp2_with fail;refine(z.out _).mono ?_;rintro e P⟨rfl,rfl⟩;go_wp2;go_roundw
    case rel=>exact⟨j+1,by omega,rfl,by rw[F.out];simp,(by first|rfl|trivial)⟩
    case measure=>simp[intOf];omega
   have D:j=n:=by omega
   have r:mD 0 (a.take j)=c:=by rw[iu (by rw[<-A.out];omega)];exact v.out
   have M:¬(1114111:Int)<(c:Int):=by omega
   have N:¬(j:Int)<(n:Int):=by omega
   rw[r];clear r D;go_wp2;go_ret2;exact⟨rfl,rfl⟩
 clear q;go_wp2_with fail;go_loopw [4,27] (λnv p wr=>∃j:Nat,j<=n/\p=.int .i64 j/\nv=.int .i64 ((mD 0 (a.take j):Nat):Int)/\wr=w) (λ_ p _=>n-(intOf p).toNat)
 case atStart=>exact⟨0,ic _,rfl,rfl,(by first|rfl|trivial)⟩
 case round=>
  obtain⟨j,t,rfl,rfl,rfl⟩:=hrel;by_cases G:j<n
  ·have f:j<s.size:=by omega
   have b:j<a.length:=by have:=A.out;omega
   have z:=aa (λW=>u.out W j f b);have hd:=J.out _ (gw b);have F:=aa (show mD 0 (a.take (j+1))=mD 0 (a.take j)*16+a[j] by rw[gR b,EZ]);have R:=I.out j;generalize a[j]=d at *;generalize mD 0 (a.take j)=V at *;obtain⟨B,i⟩:∃B:Nat,B=(s[j]'f).toNat:=⟨_,rfl⟩;rw[<-i] at z;have Q:((s[j]'f).toNat:Int)=(B:Int):=by rw[i]
   clear i;go_wp2_with fail;refine(z.out _).mono ?_;rintro e P⟨rfl,rfl⟩;go_wp2;go_roundw
   case rel=>exact⟨j+1,by omega,rfl,by rw[F.out];simp,(by first|rfl|trivial)⟩
   case measure=>simp[intOf];omega
  have D:j=n:=by omega
  have r:mD 0 (a.take j)=c:=by rw[iu (by rw[<-A.out];omega)];exact v.out
  have M:¬(1114111:Int)<(c:Int):=by omega
  have N:¬(j:Int)<(n:Int):=by omega
  rw[r];clear r D;go_wp2;go_ret2;exact⟨rfl,rfl⟩
end Go.Proofs.YtmnimbnojdndmaaGreatDoor
namespace Go.Cd
section
open Go.Lib
def gz (nm:List UInt8) (r:aG):List (List UInt8):=[aV r.code,nm,[],iP r.cls,[],dD r.map,[],[],[],[],[],[],[],[],[]]
def eu (nm:List UInt8) (r:aG):List UInt8:=bH 59 (gz nm r)
def YY (r:aG):eu [88] r=kD r:=(Nw r).symm
def sfF:List UInt8:=[44,32,70,105,114,115,116,62]
def Ny:List UInt8:=[44,32,76,97,115,116,62]
def U0:List (List UInt8):=[[60,72,97,110,103,117,108,32,83,121,108,108,97,98,108,101],
 [60,78,111,110,32,80,114,105,118,97,116,101,32,85,115,101,32,72,105,103,104,32,83,117,114,114,111,103,97,116,101],
 [60,80,114,105,118,97,116,101,32,85,115,101]]
inductive qg:List UInt8->List UInt8->List UInt8->Bool->Prop
 | row:qg [] [88] [] false
 | fst (b:List UInt8) (hb:b∈U0):qg [] (b++sfF) (b++sfF) true
 | lst (b:List UInt8) (hb:b∈U0):qg (b++sfF) (b++Ny) [] true
def Bf:∀b∈U0,(b++sfF≠[]/\b++Ny≠[]/\(b++sfF).length<=60/\(b++Ny).length<=60/\(∀x∈b++sfF,(32<=x.toNat/\x.toNat<=126)/\x≠59)/\∀x∈b++Ny,(32<=x.toNat/\x.toNat<=126)/\x≠59):=by decide
def qg.name {o nm o':List UInt8} {a:Bool} (h:qg o nm o' a):nm≠[]/\nm.length<=60/\∀x∈nm,eH x/\x≠59:=by
 cases h with
 | row=>refine⟨by simp,by simp,?_⟩;unfold eH;decide
 | fst b hb=>have:=Bf b hb;exact⟨this.1,this.2.2.1,this.2.2.2.2.1⟩
 | lst b hb=>have:=Bf b hb;exact⟨this.2.1,this.2.2.2.1,this.2.2.2.2.2⟩
def E8 (c:UInt8):∀l:List (List UInt8),(bH c l).length<=(l.map λp=>p.length+1).sum
 | []=>by simp[bH]
 | [p]=>by simp[bH]
 | p::q::l=>by
   have:=E8 c (q::l);show(p++c::bH c (q::l)).length<=_;rw[gn,im,lj,oS];omega
def E9 {P:UInt8->Prop} {c:UInt8} (d:P c):∀{l:List (List UInt8)},(∀p∈l,∀b∈p,P b)->∀b∈bH c l,P b
 | [],_,b,a=>by simp[bH] at a
 | [p],h,b,a=>h p (by simp) b a
 | p::q::l,h,b,a=>by
   have a:b∈p++c::bH c (q::l):=a;rcases ie.1 a with a|a
   ·exact h p (by simp) b a
   rcases jt.1 a with rfl|a
   ·exact d
   exact E9 d (l:=q::l) (λp e=>h p (by simp[e])) b a
section
variable {nm : List UInt8} {r : aG} (hn : nm.length <= 60 /\ ∀ x ∈ nm, eH x /\ x ≠ 59) (hc : r.cls < 255)
include hn hc
def Bh:∀p∈gz nm r,∀b∈p,eH b/\b≠59:=by
 intro p c b a;unfold gz at c;simp only[jt,kt,or_false] at c;rcases c with rfl|rfl|rfl|rfl|rfl|rfl|rfl|rfl|rfl|rfl|rfl|rfl|rfl|rfl|rfl
 ·exact⟨(dX _ b a).1,(dX _ b a).2.1⟩
 ·exact hn.2 b a
 ·simp at a
 ·exact Nv (by omega) b a
 ·simp at a
 ·exact Bd _ b a
 all_goals simp at a
def JM:∀b∈eu nm r,eH b:=E9 (by unfold eH;decide) λp c b a=>(Bh hn hc p c b a).1
def kU (a:r.map.length<=2):(eu nm r).length<=100:=by
 have _:=hc;have c:=bU r.code;have b:=vY r.cls;have d:=n_ a;have:=E8 59 (gz nm r);have h0:=hn.1;unfold eu;refine ia this ?_;simp only[gz,lj,sE,oS,List.sum_nil,kp];omega
end
structure iE where
 nm:List UInt8
 r:aG
 op:List UInt8
 pl:Bool
def iE.t (l:iE):List UInt8:=eu l.nm l.r
def tL (r:aG):iE:=⟨[88],r,[],false⟩
def og (I:List iE):List aG:=(I.filter λl=>!l.pl).map (·.r)
def E_ (T:List aG):og (T.map tL)=T:=by
 unfold og;rw[qk.2 (by intro l a;obtain⟨r,_,rfl⟩:=j8.1 a;rfl),m5];exact te _
def Rj (T:List aG):(T.map tL).map iE.t=T.map kD:=by
 rw[m5];exact mL λr _=>YY r
end
end Go.Cd
section
namespace Go.Cd
open Go.Lib
def Bi (c:UInt8):∀(l:List (List UInt8)),l≠[]->(∀p∈l,c∉p)->count (bH c l) [c]+1=l.length
 | [],h,_=>absurd rfl h
 | [p],_,h=>by
   have:=mW c p (h p (by simp));show count p [c]+1=1;rw[count_miss this]
 | p::q::l,_,h=>by
   have a:=Bi c (q::l) (by simp) (λx d=>h x (by simp[d]));have b:=uC c p (bH c (q::l)) (h p (by simp));have hd:(p++c::bH c (q::l)).drop (p.length+1)=bH c (q::l):=by
    rw[show p++c::bH c (q::l)=(p++[c])++bH c (q::l) by simp,List.drop_left' (by simp)]
   show count (p++c::bH c (q::l)) [c]+1=_;rw[count_hit (by simp) b];simp only[qS];rw[hd,im,<-a];omega
end Go.Cd
namespace Go.Proofs.YtmnimbnojdndmaaGreatDoor
open Go.RowKit Go.Cd Go.Sort
structure dL (w:World):Prop where
 ml:∃m,w.cell? ⟨1,0,none⟩=some (.int .i64 m)
 p10:Lib.TabIs Tryz.prog w "internal/strconv.uint64pow10" .u64 Lib.pow10Tab
 dbr:w.cell? ⟨9,15,none⟩=some (.int .u8 4)
def Nz {P:Program} {w w':World} {s:String} {k:IntKind} {zs:List Int} (h:Lib.TabIs P w s k zs) (b:Below w.heap.size w w'):Lib.TabIs P w' s k zs:=by
 unfold Lib.TabIs World.var? at *;cases e:P.globalNamed s with
 | none=>rw[e] at h;cases h
 | some g=>
   rw[e] at h;simp only[Option.bind_some] at h⊢;have a:g<w.heap.size:=by
    rcases ki g w.heap.size with h1|h1
    ·exact h1
    rw[ld h1] at h;cases h
   rw[b.block g a];exact h
def dL.mono {w w':World} (h:dL w) (a:Below w.heap.size w w'):dL w':=
 ⟨by obtain⟨m,b⟩:=h.ml;exact⟨m,aB a b⟩,Nz h.p10 a,aB a h.dbr⟩
def JN (w:World) (e:TypeId) (s:ByteArray):Below w.heap.size w (Lib.bytesWorld w e s):=
 ⟨rfl,rfl,rfl,by rw[Lib.bytesWorld_size];omega,λk a=>Lib.bytesWorld_at_old w _ s k a⟩
def zo (w:World) (k:Nat) (os:Array Obj):Below w.heap.size w (grow (w.drewN k) os):=
 ⟨rfl,rfl,rfl,by show w.heap.size<=(w.heap++os).size;rw[Array.size_append];omega,λj a=>by
   show(w.heap++os)[j]? = _
   rw[Array.getElem?_append_left a]⟩
def Fa (n:Nat) (h:n<1000):Lib.itoa (n:Int)=iP n:=by
 unfold Lib.itoa iP;rw[if_neg (by omega),pw];by_cases a:n<10
 ·rw[if_pos a,Lib.decDigits_one a]
 rw[if_neg a];by_cases b:n<100
 ·rw[if_pos b,Lib.decDigits_two a b]
 rw[if_neg b,Lib.decDigits,dif_neg a,Lib.decDigits_two (by omega) (by omega)];rw[mN];rfl
def dM (l:List UInt8):(tx l).data.toList=l:=by simp[tx]
def JO {w:World} (l:dL w) (c:Nat) (f:c<255) :
 Calls Tryz.prog 213 #[.string (tx (iP c)),.int .i64 254] w λe w'=>e=.returned (.tuple #[.int .i64 c,.bool true])/\Below w.heap.size w w':=by
 have i:=aa (Tryz.strconv_Atoi (tx (iP c)) c (by rw[aX];have:=(vY c).2;omega) (by rw[dM];exact Ri c f) w)
 have j:=aa (show ∀W,dL W->Calls Tryz.prog 159 #[.int .i64 c] W λe w'=>e=.returned (.string (tx (iP c)))/\∃k os,w'=grow (W.drewN k) os from λW h=>by
  have:=Tryz.strconv_Itoa c (by omega) (by omega) W h.p10;rw[Fa c (by omega)] at this
  exact this)
 have g:=aa l;generalize tx (iP c)=S at *;have p:¬(c:Int)<0:=by omega
 have o:¬(254:Int)<(c:Int):=by omega
 go_enter Tryz.func213,Tryz.ntmps213;go_wp2_with fail;refine i.out.mono ?_;rintro e b⟨rfl,t,rfl⟩;have d:=JN w 5 t;have n:=aa (g.out.mono d);generalize Lib.bytesWorld w 5 t=b at *;go_wp2_with fail;refine(j.out _ n.out).mono ?_;rintro e m⟨rfl,k,os,rfl⟩;have a:=zo b k os;generalize grow (b.drewN k) os=m at *;go_wp2;go_ret2;exact⟨rfl,af d a⟩
def DI {w:World} (t:dL w) (c:Nat) :
 Calls Tryz.prog 150 #[.string (tx (aV c))] w λe w'=>e=.returned (.string (tx (aV c)))/\Below w.heap.size w w':=by
 obtain⟨m,o⟩:=t.ml;have u:(tx (aV c)).size<=6:=by rw[aX];exact(bU c).2
 have v:=aa (show Calls Tryz.prog 186 #[.string (tx (aV c)),.string ⟨#[35]⟩] w λe w'=>e=.returned (.tuple #[.string (tx (aV c)),.string ⟨#[]⟩,.bool false])/\∃n,w'=w.drewN n from by
  have h:=Tryz.strings_Cut (tx (aV c)) ⟨#[35]⟩ m w (by omega) o;rw[dM,show(⟨#[35]⟩:ByteArray).data.toList=[35] from rfl,UZ] at h
  exact h)
 have p:=aa (show ∀W,Calls Tryz.prog 187 #[.string (tx (aV c)),.string ⟨#[32]⟩] W λe w'=>e=.returned (.string (tx (aV c)))/\(w'=W\/w'=W.drew) from λW=>by
  have h:=Tryz.strings_Trim_one (tx (aV c)) 32 (by decide) W (by omega);have s:Lib.trimB (aV c) 32=aV c:=by
   have g:∀b∈aV c,(b==(32:UInt8))=false:=λb i=>by
    have:=(dX c b i).2.2.1;simpa using this
   have d:∀l:List UInt8,(∀b∈l,(b==(32:UInt8))=false)->l.dropWhile (·==32)=l:=by
    intro l r;cases l with
    | nil=>rfl
    | cons a l=>rw[List.dropWhile_cons,if_neg];rw[r a (nF ..)];decide
   unfold Lib.trimB Lib.trimLeftB Lib.trimRightB;rw[d (aV c).reverse (λb i=>g b (List.mem_reverse.1 i)),List.reverse_reverse,d _ g]
  rw[dM,s] at h
  exact h)
 generalize tx (aV c)=S at *;clear o u;go_enter Tryz.func150,Tryz.ntmps150;go_wp2_with fail;refine v.out.mono ?_;rintro e k⟨rfl,n,rfl⟩;have i:Below w.heap.size w (w.drewN n):=below_drewN (gS _ _) n;generalize w.drewN n=k at *;go_wp2_with fail;refine(p.out _).mono ?_;rintro e q⟨rfl,f⟩;have j:Below k.heap.size k q:=by rcases f with rfl|rfl;exact gS _ _;exact ag _
 clear f;go_wp2;go_ret;exact⟨rfl,af i j⟩
def tN {w:World} (n:dL w) (F:List (List UInt8)) (f:F.length=15) (b:∀p∈F,(59:UInt8)∉p) (k:(bH 59 F).length<=100) :
 Calls Tryz.prog 182 #[.string (tx (bH 59 F))] w λe w'=>e=.returned (.slice (some ⟨w.heap.size,0,none⟩) 15 15)/\w'=w.alloc (.cells (F.map λl=>Value.string (tx l)).toArray 9):=by
 obtain⟨m,g⟩:=n.ml;have c:F≠[]:=λe=>by rw[e] at f;cases f
 have o:(tx (bH 59 F)).size<=100:=by rw[aX];exact k
 have d:=Tryz.strings_Split (tx (bH 59 F)) ⟨#[59]⟩ m w (by omega) g (by decide);have a:Lib.countB (tx (bH 59 F)) ⟨#[59]⟩=Lib.count (bH 59 F) [59]:=by
  have:=dM (bH 59 F);unfold Lib.countB;simp only[this]
 have i:(Lib.splitB ⟨#[59]⟩ 0 (Lib.countB (tx (bH 59 F)) ⟨#[59]⟩) (tx (bH 59 F))).map (·.data.toList)=F:=by
  rw[Lib.splitB_data,dM,a];exact Be 59 F c b
 have j:Lib.splitB ⟨#[59]⟩ 0 (Lib.countB (tx (bH 59 F)) ⟨#[59]⟩) (tx (bH 59 F))=F.map tx:=by
  conv=>rhs;rw[<-i]
  rw[m5];have:(tx ∘ λx:ByteArray=>x.data.toList)=id:=by
   funext x;apply wj;simp[tx]
  rw[this,te]
 have h:Lib.countB (tx (bH 59 F)) ⟨#[59]⟩+1=15:=by
  rw[a,<-f];exact Bi 59 F c b
 rw[j,h,m5] at d;have d:=aa d;generalize tx (bH 59 F)=S at *;clear j i h a o g;go_enter Tryz.func182,Tryz.ntmps182;go_wp2_with fail;refine d.out.mono ?_;rintro e q⟨rfl,rfl⟩;go_wp2;go_ret;exact⟨rfl,rfl⟩
end Go.Proofs.YtmnimbnojdndmaaGreatDoor
end
namespace Go.Proofs.YtmnimbnojdndmaaGreatDoor
open Go.RowKit Go.Cd _root_.Go.Proofs.Tryz
def Tz (n:Nat) (b:n<18446744073709551616):bits .and .u64 (n:Int) 15=((n % 16:Nat):Int):=by
 have a:(BitVec.ofInt 64 15).toNat=2 ^ 4-1:=by decide
 have key:(BitVec.ofInt 64 n &&& BitVec.ofInt 64 15).toNat=((n:Int) % ((2 ^ 64:Nat):Int)).toNat % 2 ^ 4:=by
  rw[sR,pH,a,oy]
 show IntKind.u64.wrap ((BitVec.ofInt 64 n &&& BitVec.ofInt 64 15).toNat:Nat)=_;rw[key,pf];omega
def aaD {w:World} (h:w.cell? ⟨9,15,none⟩=some (.int .u8 4)) :
 Calls prog 300 #[.int .u64 16] w λe w'=>e=.returned (.int .i64 4)/\w'=w:=by
 have:bits .and .u64 16 (IntKind.u64.wrap (-16))=16:=by decide
 have:IntKind.u64.wrap (16*285870213051353865) / 288230376151711744=15:=by decide
 go_enter func300,ntmps300;go_wp2;go_ret;exact⟨rfl,rfl⟩
def agN {w:World} (h:w.cell? ⟨9,15,none⟩=some (.int .u8 4)) :
 Calls prog 284 #[.int .u64 16] w λe w'=>e=.returned (.int .i64 4)/\w'=w:=by
 have T:=aa (aaD h);go_enter func284,ntmps284;go_wp2_with fail;refine T.out.mono ?_;rintro e a⟨rfl,rfl⟩;go_wp2;go_ret;exact⟨rfl,rfl⟩
def aaE {w:World}:Calls prog 283 #[.int .i64 16] w λe w'=>e=.returned (.bool true)/\w'=w:=by
 have:bits .and .i64 16 15=0:=by decide
 go_enter func283,ntmps283;go_wp2;go_ret;exact⟨rfl,rfl⟩
def abR:ByteArray:=⟨#[48,49,50,51,52,53,54,55,56,57,97,98,99,100,101,102,103,104,105,106,107,108,109,110,111,112,113,114,115,116,117,118,119,120,121,122]⟩
def aaF:∀d (h:d<16),(abR[d]'(by have:abR.size=36:=rfl;omega)).toNat=(IB d).toNat:=by decide
def aaG (cs:Array Value) (k n:Nat):Prop:=cs.size=65/\∀j (a:j<k),cs[65-k+j]? = some (.int .u8 ((sZ k n)[j]'(by rw[C_];exact a)).toNat)
def aaG.step {a:Array Value} {k n:Nat} (h:aaG a k n) (c:k<60):aaG (a.setIfInBounds (64-k) (.int .u8 (IB (n / 16 ^ k % 16)).toNat)) (k+1) n:=by
 refine⟨by simp[h.1],λj b=>?_⟩;have e:65-(k+1)=64-k:=by omega
 rw[e,qe];rcases j with _|j
 ·simp[h.1,Gh];omega
 rw[if_neg (by omega)];have:=h.2 j (by omega);rw[show 64-k+(j+1)=65-k+j by omega,this];simp[Gh]
def aaH (l:List UInt8):str (l.map UInt8.toNat)=tx l:=by
 unfold str tx;rw[m5];have:UInt8.ofNat ∘ UInt8.toNat=id:=by funext x;simp
 rw[this,te]
def Ed {w:World} (U:dL w) (n:Nat) (hn:n<1114112) :
 Calls prog 258 #[.slice none 0 0,.int .u64 n,.int .i64 16,.bool false,.bool false] w λe w'=>∃k v,e=.returned (.tuple #[v,.string (tx (sZ (k+1) n))])/\aaC k n/\Below w.heap.size w w':=by
 have TZ:=aa (λ(W:World) (E:Below w.heap.size w W)=>agN (U.mono E).dbr);have P2:=aa (λW=>aaE (w:=W));clear U;go_enter func258,ntmps258;go_wp2_with fail;obtain⟨Z,b⟩:=ae (w.alloc (.cells zeroCells383 383));have p:=aO b;have S:Is Z w.heap.size zeroCells383 383:=by rw[b];exact Is.new _ _ _
 have H:zeroCells383.size=65:=by kernel_rfl
 rw[<-b];clear b;generalize zeroCells383=cs0 at *;refine(P2.out Z).mono ?_;rintro e z⟨rfl,rfl⟩;go_wp2_with fail;refine(TZ.out _ p).mono ?_;rintro e w3⟨rfl,rfl⟩;go_wp2_with fail;go_loopw [1,13] (λF iv wr=>∃(k:Nat) (g:Array Value),k<=5/\F=.int .u64 (n / 16 ^ k:Nat)/\iv=.int .i64 (65-k:Nat)/\(k=0\/16 ^ k<=n)/\Is wr w.heap.size g 383/\aaG g k n/\Below w.heap.size w wr) (λF _ _=>(intOf F).toNat)
 case atStart=>exact⟨0,cs0,by omega,by simp,rfl,.inl rfl,S,⟨H,by simp⟩,p⟩
 case round=>
  clear S;obtain⟨k,g,ag,rfl,rfl,s,B,X,R⟩:=hrel;obtain⟨u,A⟩:=ae (n / 16 ^ k);obtain⟨m,O⟩:=ae (65-k);rw[<-A,<-O];have ab:u<=n:=by rw[A];exact tR _ _
  have af:IntKind.i64.wrap ((m:Int)-1)=((m-1:Nat):Int):=by rw[ph];omega
  have J:=Tz u (by omega);have hd:u % 16<16:=mS _ (by decide);have fz:=B.frozen (m-1);have l:=aa A;have C:=aa O;have ah:m<=65/\60<=m:=by omega
  obtain⟨d,f⟩:=ae (u % 16);rw[<-f] at J hd;have o:=aaF d hd;have I:=aa f;clear A O f;obtain⟨x,Q⟩:∃x,g[m-1]? = some x:=⟨g[m-1]'(by rw[X.1];omega),rh _⟩;have ex:=B.at (m-1) Q;have D:(d:Int)<36:=by omega
  have ac:((⟨#[48,49,50,51,52,53,54,55,56,57,97,98,99,100,101,102,103,104,105,106,107,108,109,110,111,112,113,114,115,116,117,118,119,120,121,122]⟩:ByteArray)[d]'(by show d<36;omega)).toNat=(IB d).toNat:=o;have V:=aa (X.step (by omega));clear Q o;by_cases t:16<=u
  ·have zc:decide ((16:Int)<=(u:Int))=true:=by simp;omega
   have i:16 ^ (k+1)<=n:=by
    have:=l.out;rw[this,Nat.le_div_iff_mul_le (Nat.pos_of_ne_zero (by simp))] at t;rw[my,m_];exact t
   have M:k+1<=5:=by
    rcases ki k 5 with h|h
    ·exact h
    have:(16:Nat) ^ 6<=16 ^ (k+1):=kj (by decide) (by omega);omega
   have HK:=aa i;clear i;go_wp2;have K:64-k=m-1:=by have:=C.out;omega
   have c:=V.out;rw[K,<-l.out,<-I.out] at c;refine⟨⟨k+1,_,M,?_,?_,.inr HK.out,B.set (m-1) _,c,aj R (d' _)⟩,?_⟩
   ·rw[my,<-mN,<-l.out];rfl
   ·have:=C.out;congr 2;omega
   show((u:Int) / 16).toNat<(u:Int).toNat;omega
  have zc:decide ((16:Int)<=(u:Int))=false:=by simp;omega
  have L:d=u:=by rw[I.out];omega
  have D:(u:Int)<36:=by omega
  subst L;obtain⟨z,a⟩:=ae (wr.setCell ⟨w.heap.size,m-1,none⟩ (.int .u8 (IB d).toNat));have c:=V.out;have K:64-k=m-1:=by have:=C.out;omega
  rw[K,<-l.out,<-I.out] at c;have Y:Is z w.heap.size (g.setIfInBounds (m-1) (.int .u8 (IB d).toNat)) 383:=by rw[a];exact B.set (m-1) _
  have N:Below w.heap.size w z:=by rw[a];exact aj R (d' _)
  have j:65-(m-1)=k+1:=by have:=C.out;omega
  have y:((sZ (k+1) n).map UInt8.toNat).length=k+1:=by rw[iz,C_]
  have SV:bG z (.slice (some ⟨w.heap.size,m-1,none⟩) (65-(m-1)) (65-(m-1))) (mR ((sZ (k+1) n).map UInt8.toNat)):=by
   refine⟨_,_,by rw[uy,y,j],by rw[uy,y];omega,.inr ⟨w.heap.size,m-1,_,_,_,rfl,Y.at_,λq r=>?_⟩⟩;rw[uy,y] at r;rw[show m-1=65-(k+1) by omega] at c⊢;rw[c.2 q r,yZ _ _ (by rw[y];exact r)];simp
  have T:=A7 SV (by intro q r;obtain⟨x,_,rfl⟩:=j8.1 r;exact x.toNat_lt);rw[aaH] at T;have G:prog.arrayLen 383=65:=by kernel_rfl
  have ad:∀W,(Instr.sliceAt 383 (.pointer (some ⟨w.heap.size,0,none⟩)) (some (.int .i64 ((m-1:Nat):Int))) none none).run prog W=.ok (.slice (some ⟨w.heap.size,m-1,none⟩) (65-(m-1)) (65-(m-1))) W:=λW=>by
   rw[run_sliceAt_array_l W 383 ⟨w.heap.size,0,none⟩ (by kernel_rfl) .i64 _ (by omega) (by rw[G];omega)]
   go_simp
   omega
  rw[a,j] at T;have P:=aa s;clear SV Y c s;go_wp2
  (try simp only[Exit.inBlock,Exit.then])
  go_ret2;rw[<-a];refine⟨k,⟨_,rfl⟩,⟨?_,P.out⟩,N⟩;have:=l.out;rw[my];exact kh ((Nat.div_lt_iff_lt_mul (Nat.pos_of_ne_zero (by simp))).1 (this▸hd:n / 16 ^ k<16)) (by rw[m_];exact d' _)
def IC {w:World} (b:dL w) (n:Nat) (c:n<1114112) :
 Calls prog 232 #[.int .i64 n,.int .i64 16] w λe w'=>∃k,e=.returned (.string (tx (sZ (k+1) n)))/\aaC k n/\Below w.heap.size w w':=by
 have F:=aa (Ed b n c);have:decide ((n:Int)<0)=false:=by simp
 have:IntKind.u64.wrap (n:Int)=n:=by rw[pf];omega
 clear b;go_enter func232,ntmps232;go_wp2_with fail;refine F.out.mono ?_;rintro e h⟨k,v,rfl,a,f⟩;have d:=aa a;clear a F;go_wp2
 (try simp only[Exit.inBlock,Exit.then])
 go_ret;exact⟨k,rfl,d.out,f⟩
def Ee {w:World} (a:dL w) (n:Nat) (c:n<1114112) :
 Calls prog 197 #[.int .i64 n,.int .i64 16] w λe w'=>∃k,e=.returned (.string (tx (sZ (k+1) n)))/\aaC k n/\Below w.heap.size w w':=by
 have F:=aa (IC a n c);clear a;go_enter func197,ntmps197;go_wp2_with fail;refine F.out.mono ?_;rintro e f⟨k,rfl,b,d⟩;go_wp2;go_ret;exact⟨k,rfl,b,d⟩
def vw {w:World} (h:dL w) (n:Nat) (l:n<1114112) :
 Calls prog 158 #[.int .i32 n] w λe w'=>e=.returned (.string (tx (aV n)))/\Below w.heap.size w w':=by
 have F:=aa (Ee h n l);have:IntKind.i64.wrap (n:Int)=n:=by rw[ph];omega
 clear h;go_enter func158,ntmps158;go_wp2_with fail;refine F.out.mono ?_;rintro e c⟨k,rfl,f,t⟩;obtain⟨d,r⟩:=W9 f l;have a:=aa (Tryz.strings_ToUpper_ascii (tx (sZ (k+1) n)) c (by rw[aX,C_];omega) (λj b g=>by rw[dM] at g;exact Pq _ _ j b g));rw[dM,aaB] at a;have a:Hid (Calls prog 196 #[.string (tx (sZ (k+1) n))] c λe w'=>e=.returned (.string (tx (jw (k+1) n)))/\Below c.heap.size c w'):=a;obtain⟨j,m⟩:=ae (4-(k+1));rw[<-m] at d;have i:Hid (∀W,Calls prog 198 #[.string ⟨#[48]⟩,.int .i64 j] W λe w'=>e=.returned (.string (tx (Lib.repeatL [48] j)))/\Below W.heap.size W w'):=aa (λW=>Tryz.strings_Repeat ⟨#[48]⟩ j W (by omega) (by show 1*_<=_;omega));have:(tx (jw (k+1) n)).size=k+1:=by rw[aX,qH]
 have:(tx (Lib.repeatL [48] j)).size<=4:=by rw[aX,Lib.repeatL_length];simp;omega
 have:max (4-((k:Int)+1)) 0=(j:Int):=by omega
 have:IntKind.i64.wrap (4-((k:Int)+1))=4-((k:Int)+1):=by rw[ph];omega
 have o:=aa (show tx (Lib.repeatL [48] j)++tx (jw (k+1) n)=tx (aV n) by rw[dA,d]);have s:=aa t;generalize tx (jw (k+1) n)=s1 at *;generalize tx (Lib.repeatL [48] j)=s2 at *;clear d f F m;go_wp2_with fail;refine a.out.mono ?_;rintro e z⟨rfl,p⟩;clear a;go_wp2_with fail;refine(i.out _).mono ?_;rintro e w4⟨rfl,v⟩;clear i;go_wp2;go_ret;exact⟨by rw[o.out];rfl,af s.out (af p v)⟩
end Go.Proofs.YtmnimbnojdndmaaGreatDoor
namespace Go.Proofs.YtmnimbnojdndmaaGreatDoor
open Go.RowKit Go.Cd Go.Shelf
def pW (B b:Nat) (l:List UInt8) (w:World):Prop:=Lib.IsBuilderF 191 5 B b (Lib.byteCells l) w
def pW.below {B b:Nat} {l:List UInt8} {W d:World} (h:pW B b l W) (a:Below W.heap.size W d):pW B b l d:=by
 have key:∀p,Lib.BuilderAtF 191 5 B b p (Lib.byteCells l) W->Lib.BuilderAtF 191 5 B b p (Lib.byteCells l) d:=by
  rintro p⟨g,v,f,c,e⟩;exact⟨g,v,(a.block b (block_lt f)).trans f,c.kept (row:=none) ⟨a.os,a.tape,a.output,a.size,λk i _=>a.block k i⟩ (Classical.em _),e⟩
 exact h.imp (key _) (key _)
def jb {B b:Nat} {l:List UInt8} {w:World} (h:pW B b l w) (s:List UInt8) (g:l.length+s.length<=1000000) (c:B<=w.heap.size) :
 Calls Tryz.prog 110 #[.pointer (some ⟨b,0,none⟩),.string (tx s)] w λe w'=>e=.returned (.tuple #[.int .i64 s.length,.nilIface])/\pW B b (l++s) w'/\Below B w w'/\Lib.OthersKept 5 (some b) w w':=by
 have:=Any.Builder_WriteString_k (ρ:=Tryz.qB) { Tryz.Gz with } Tryz.iU B b (Lib.byteCells l) (tx s) w h (by rw[Lib.byteCells_length,aX];omega) c;refine se this ?_;rintro e w'⟨rfl,a,f,d⟩;refine⟨by rw[aX],?_,f,d⟩;have e:Lib.byteCells (l++s)=Lib.byteCells l++Lib.strCells (tx s):=by rw[Lib.byteCells_append];rfl
 unfold pW;rw[e];exact .inr a
def Da {B b:Nat} {l:List UInt8} {w:World} (h:pW B b l w) (h0:l≠[]) :
 Calls Tryz.prog 113 #[.pointer (some ⟨b,0,none⟩)] w λe w'=>e=.returned (.string (tx l))/\Below B w w':=by
 have:=Any.Builder_String_k Tryz.YF Tryz.vP B b l w h h0;exact se this λe w' ⟨c,_,a,_⟩=>⟨c,a⟩
end Go.Proofs.YtmnimbnojdndmaaGreatDoor
namespace Go.Proofs.YtmnimbnojdndmaaGreatDoor
open Go.RowKit Go.Sort _root_.Go.Proofs.Tryz
abbrev encR:Int->Value:=λx=>Value.int .i32 x
def xL (x:Int) (w:World):Calls prog 178 #[.int .i32 x] w λe w'=>e=.returned (.bool false)/\w'=w:=by
 go_enter func178,ntmps178;go_wp2;go_ret;exact⟨by simp,rfl⟩
def aK (x y:Int) (w:World):Calls prog 141 #[.int .i32 x,.int .i32 y] w λe w'=>e=.returned (.bool (Sort.ltInt x y))/\w'=w:=by
 go_enter func141,ntmps141;go_wp2_with (go_at_call 178;refine(xL _ _).mono ?_;rintro e w'⟨rfl,rfl⟩);go_ret;exact⟨rfl,rfl⟩
def qC (c off cap a b:Nat) (d:Array Int) (w:World) (u:Holds (Value.int .i32) w c off d) (V:a<=b) (W:b<=d.size) (N:d.size<4611686018427387904) :
 Calls prog 135 #[.slice (some ⟨c,off,none⟩) d.size cap,.int .i64 a,.int .i64 b] w λe w'=>
  e=.returned (.tuple #[])/\∃n,w'=putRow (Value.int .i32) (Sort.ahead w n) c off (Sort.insertionSort ltInt d a b):=by
 go_enter func135,ntmps135;go_wp2
 go_loopw [6] (λz wr=>∃(i n:Nat) (h:Array Int),z=.int .i64 i/\a<i/\i<=b+1/\h.size=d.size/\wr=putRow (Value.int .i32) (Sort.ahead w n) c off h/\
  insOuter ltInt a b i h=insOuter ltInt a b (a+1) d) (λz _=>b+1-(intOf z).toNat)
 case atStart=>exact⟨a+1,0,d,by go_num,by omega,by omega,rfl,(putRow_self _ _ _ _ _ u).symm,rfl⟩
 case round=>
  obtain⟨i,n,h,rfl,Q,S,v,T,I⟩:=hrel;have F:Hid (insOuter ltInt a b i h=insOuter ltInt a b (a+1) d):=I;clear I;go_wp2
  ·
   go_loopw [7] (λD A=>∃(j m:Nat) (f:Array Int),D=.int .i64 j/\a<=j/\j<=i/\f.size=d.size/\A=putRow (Value.int .i32) (Sort.ahead w m) c off f/\
    insInner ltInt a j f=insInner ltInt a i h) (λD _=>(intOf D).toNat)
   case atStart=>exact⟨i,n,h,rfl,by omega,d' _,v,rfl,rfl⟩
   case round=>
    obtain⟨j,m,f,rfl,U,O,l,g,hI⟩:=hrel;have E:i<b:=by assumption
    obtain⟨G,C⟩:∃G:Nat->Int,∀t,G t=f[t]!:=⟨λt=>f[t]!,λ_=>rfl⟩;have:∀t,t<d.size->wr.cell? ⟨c,off+t,none⟩=some (.int .i32 (G t)):=λt J=>by
     rw[g,C];exact cell?_putRow _ _ _ _ d f (holds_ahead _ _ _ _ _ _ u) l t (by omega)
    have:∀t,t<d.size->wr.frozen? ⟨c,off+t,none⟩=false:=λt J=>by
     rw[g,frozen?_putRow];exact((holds_ahead _ _ m _ _ _ u) t J).2
    have H:Hid (wr=putRow (Value.int .i32) (Sort.ahead w m) c off f):=g;have o:Hid (∀t,G t=f[t]!):=C;have K:Hid (insInner ltInt a j f=insInner ltInt a i h):=hI;clear g C hI u;have p:(j<=a\/ltInt f[j]! f[j-1]! = false)->∀q,∃s L k,Value.int .i64 ((i:Int)+1)=.int .i64 (s:Nat)/\a<s/\s<=b+1/\k.size=d.size/\
     wr.drewN q=putRow (Value.int .i32) (Sort.ahead w L) c off k/\insOuter ltInt a b s k=insOuter ltInt a b (a+1) d:=λR q=>
     ⟨i+1,m+q,f,by go_num,by omega,by omega,l,by rw[H.out];exact putRow_drewN _ _ _ _ _ _ _,
       by rw[<-F.out,insOuter_go _ _ _ _ _ E,<-K.out,insInner_stop _ _ _ _ R]⟩
    have r:Hid _:=p;clear p;go_wp2;by_cases y:a<j
    ·go_quiet (first|(go_at_call 141;refine jz (aK _ _ _)));go_wp2
     ·
      have B:ltInt (G j) (G (j-1))=true:=by assumption
      go_region
      all_goals go_wp2
      go_roundw
      case rel=>
       refine⟨j-1,m+(nq+1),swp f j (j-1),by congr 1;omega,by omega,by omega,by rw[size_swp];exact l,?_,?_⟩
       ·rw[H.out,o.out,o.out];exact swap_worldA _ w m (nq+1) c off f j (j-1) (by omega) (by omega)
       rw[<-K.out,insInner_go ltInt a j f y (by rw[<-o.out,<-o.out];exact B)]
      case measure=>simp[intOf];omega
     ·
      have B:ltInt (G j) (G (j-1))=false:=by assumption
      go_roundw
      case rel=>exact r.out (Or.inr (by rw[<-o.out,<-o.out];exact B)) nq
      case measure=>simp[intOf];omega
    go_quiet (first|(go_at_call 141;refine jz (aK _ _ _)));go_wp2;go_roundw
    case rel=>exact r.out (Or.inl (by omega)) nq
    case measure=>simp[intOf];omega
  ·
   have x:¬i<b:=by assumption
   go_end0
   exact⟨rfl,n,by unfold Sort.insertionSort;rw[<-F.out,insOuter_stop _ _ _ _ _ x]⟩
def sM (c off cap:Nat) (d:Array Int) (a b:Nat) (w:World) (s:Holds encR w c off d) (z:a<=b) (B:b<=d.size) (x:d.size<4611686018427387904) :
 Calls prog 139 #[.slice (some ⟨c,off,none⟩) d.size cap,.int .i64 a,.int .i64 b] w λe w'=>e=.returned (.tuple #[])/\∃n,w'=putRow encR (Sort.ahead w n) c off (reverseRange d a b):=by
 go_enter func139,ntmps139;go_wp2
 go_loopg [6,7] (b-a) (λk s6 s7 wr=>∃(i f:Nat) (o:Int) (g:Array Int) (n:Nat),s6=.int .i64 i/\s7=.int .i64 o/\((i:Int)<o->o=f/\f<d.size)/\(¬(i:Int)<o->¬i<f)/\f-i<=k/\
  g.size=d.size/\wr=putRow encR (Sort.ahead w n) c off g/\reverseLoop i f g=reverseLoop a (b-1) d)
 case atStart=>exact⟨a,b-1,(b:Int)-1,d,0,rfl,rfl,λh=>⟨by omega,by omega⟩,λh=>by omega,by omega,rfl,(putRow_self encR w c off d s).symm,rfl⟩
 case round=>
  obtain⟨i,f,o,g,n,rfl,rfl,u,v,D,r,m,j⟩:=hrel;by_cases q:(i:Int)<o
  ·obtain⟨rfl,y⟩:=u q;have t:i<f:=by omega
   have l:Holds encR wr c off g:=by rw[m];exact holds_putRow encR _ c off d g (holds_ahead encR w n c off d s) r
   obtain⟨F,G⟩:=l i (by omega);obtain⟨C,E⟩:=l f (by omega);have A:Aside (wr=putRow encR (Sort.ahead w n) c off g):=m;clear m l s u v;go_wp2_with fail;go_region;go_wp2
   go_roundg (f-1-(i+1))
   case measure=>omega
   case rel=>
    rw[reverseLoop,if_pos t] at j
    exact⟨i+1,f-1,(f:Int)-1,swp g i f,n+1,by simp,rfl,λh=>⟨by omega,by omega⟩,λh=>by omega,d' _,by rw[size_swp];exact r,
     swap_world encR (by omega) (by omega) A.out (by simp[encR,getElem!_pos,show f<g.size by omega]) rfl,j⟩
  have p:=v q;go_wp2
  go_end0
  refine⟨rfl,n,?_⟩;rw[reverseLoop,if_neg p] at j;rw[reverseRange,<-j]
end Go.Proofs.YtmnimbnojdndmaaGreatDoor
