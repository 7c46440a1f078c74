/- Texts that are alike cost, and count, the same; no condition. -/
import Derived.Test.YtmnimbnojdndmaaGreatDoorU01
import Derived.Shelf.Strings.Builder1
import Derived.Shelf.Strings.Builder2
import Derived.Shelf.Strings.OnBuilder
import Derived.Shelf.Strings.Trim
import Derived.Shelf.Small.Utf8
import Derived.Shelf.Small.Bits
import Derived.Shelf.Small.Strs
import Derived.Shelf.Small.Wraps
import Derived.Shelf.Strings.BuilderF
import Derived.Shelf.Strings.BuilderK
import Derived.Shelf.Utf8.RuneCount
import Derived.Shelf.Strconv.Atoi
import Derived.Shelf.Strconv.Itoa0
import Derived.Shelf.Strconv.Itoa1
import Derived.Shelf.LaysM
import Derived.Shelf.Strconv.Itoa2
import Derived.Shelf.Strconv.Itoa3
import Derived.Shelf.Strings.Search1
import Derived.Shelf.Strings.Search2
import Derived.Shelf.Strings.Search3
import Derived.Shelf.Strings.Cut
import Derived.Shelf.Strings.Count
import Derived.Shelf.Strings.Shaped
import Derived.Shelf.Strings.Prefix
import Derived.Shelf.Strings.Split
import Derived.Shelf.Unicode.Latin
import Derived.Shelf.Unicode.Decode
import Derived.Shelf.Strings.Runes
import Derived.Shelf.Strings.RuneCount
import Derived.Shelf.Strings.AsciiSet
import Derived.Shelf.Bits.Mul64
import Derived.Shelf.Strings.Repeat
import Derived.Shelf.Unicode.DecodeSlow
import Derived.Shelf.Unicode.CaseLookup
import Derived.Shelf.Unicode.CaseConvert
import Derived.Shelf.Unicode.CaseTo
import Derived.Shelf.Unicode.CaseLaid
import Derived.Ground.Names2Prog
import Derived.Shelf.Slices.Clone
import Derived.Ground.SlgnProg
import Derived.Shelf.SlicesE.Equal
import Derived.Shelf.SlicesE.Clone
import Derived.Test.YtmnimbnojdndmaaGreatDoorProg
import Derived.Sort.WalkA6
import Derived.Sort.WalkB12
set_option maxRecDepth 100000
set_option maxHeartbeats 6400000
set_option linter.all false
namespace Go.Proofs
section
open Go.Shelf _root_.Go.Proofs.Tryz
def zLf {α:Type} {a:Option α} {b c:α} (h:a=some b) (k:b=c:=by kernel_rfl):a=some c:=h.trans (congrArg some k)
def Tryz.yT:Go.Shelf.Ren:=⟨fun|169=>113|n=>n,fun|70=>189|9=>9|0=>0|72=>191|37=>163|127=>266|3=>3|5=>5|n=>n,fun|n=>n⟩
def Tryz.YF:Go.Proofs.Lays.n169 prog Tryz.yT:={
 mixed:=by kernel_rfl
 f169:=zLf func113
 t0:=underlying0
 a0:=isAgg0
 z0:=sizeOf0
 v0:=zeroValue0
 t3:=underlying3
 a3:=isAgg3
 z3:=sizeOf3
 v3:=zeroValue3
 t9:=underlying9
 a9:=isAgg9
 z9:=sizeOf9
 v9:=zeroValue9
 t37:=underlying163
 a37:=isAgg163
 z37:=sizeOf163
 v37:=zeroValue163
 t70:=underlying189
 a70:=isAgg189
 z70:=sizeOf189
 v70:=zeroValue189
 t72:=underlying191
 a72:=isAgg191
 z72:=sizeOf191
 v72:=zeroValue191
 t127:=underlying266
 a127:=isAgg266
 z127:=sizeOf266
 v127:=zeroValue266 }
def Tryz.vP:Builder.Extra prog Tryz.yT:={
 sizeBuilder:=by kernel_rfl
 liesBuilder:=by kernel_rfl
 t5:=underlying5
 a5:=isAgg5
 z5:=sizeOf5
 v5:=zeroValue5
 infoByte:=by kernel_rfl
 cellsByte:=by kernel_rfl
 sizeByte:=by kernel_rfl
 neB5:=by decide }
def Tryz.yU:Go.Shelf.Ren:=⟨fun|158=>196|165=>200|166=>110|167=>229|169=>113|230=>230|203=>231|240=>157|241=>236|197=>248|118=>251|168=>252|270=>253|262=>254|276=>195|277=>262|260=>276|242=>279|313=>280|278=>296|274=>297|275=>298|n=>n,fun|9=>9|4=>4|3=>3|5=>5|72=>191|0=>0|76=>199|75=>134|107=>350|70=>189|20=>20|37=>163|127=>266|21=>21|105=>359|164=>317|162=>380|203=>302|119=>393|46=>110|139=>396|138=>395|51=>109|160=>397|208=>407|206=>405|80=>137|n=>n,fun|13=>2|3=>4|4=>5|n=>n⟩
def Tryz.YG:Go.Proofs.Lays.n158 prog Tryz.yU:={
 mixed:=by kernel_rfl
 f118:=zLf func251
 f158:=zLf func196
 f165:=zLf func200
 f166:=zLf func110
 f167:=zLf func229
 f168:=zLf func252
 f169:=zLf func113
 f197:=zLf func248
 f203:=zLf func231
 f230:=zLf func230
 f240:=zLf func157
 f241:=zLf func236
 f242:=zLf func279
 f260:=zLf func276
 f262:=zLf func254
 f270:=zLf func253
 f274:=zLf func297
 f275:=zLf func298
 f276:=zLf func195
 f277:=zLf func262
 f278:=zLf func296
 f313:=zLf func280
 t0:=underlying0
 a0:=isAgg0
 z0:=sizeOf0
 v0:=zeroValue0
 t3:=underlying3
 a3:=isAgg3
 z3:=sizeOf3
 v3:=zeroValue3
 t4:=underlying4
 a4:=isAgg4
 z4:=sizeOf4
 v4:=zeroValue4
 t5:=underlying5
 a5:=isAgg5
 z5:=sizeOf5
 v5:=zeroValue5
 t9:=underlying9
 a9:=isAgg9
 z9:=sizeOf9
 v9:=zeroValue9
 t20:=underlying20
 a20:=isAgg20
 z20:=sizeOf20
 v20:=zeroValue20
 t21:=underlying21
 a21:=isAgg21
 z21:=sizeOf21
 v21:=zeroValue21
 t37:=underlying163
 a37:=isAgg163
 z37:=sizeOf163
 v37:=zeroValue163
 t46:=underlying110
 a46:=isAgg110
 z46:=sizeOf110
 v46:=zeroValue110
 t51:=underlying109
 a51:=isAgg109
 z51:=sizeOf109
 v51:=zeroValue109
 t70:=underlying189
 a70:=isAgg189
 z70:=sizeOf189
 v70:=zeroValue189
 t72:=underlying191
 a72:=isAgg191
 z72:=sizeOf191
 v72:=zeroValue191
 t75:=underlying134
 a75:=isAgg134
 z75:=sizeOf134
 v75:=zeroValue134
 t76:=underlying199
 a76:=isAgg199
 z76:=sizeOf199
 v76:=zeroValue199
 t105:=underlying359
 a105:=isAgg359
 z105:=sizeOf359
 v105:=zeroValue359
 t107:=underlying350
 a107:=isAgg350
 z107:=sizeOf350
 v107:=zeroValue350
 t119:=underlying393
 a119:=isAgg393
 z119:=sizeOf393
 t127:=underlying266
 a127:=isAgg266
 z127:=sizeOf266
 v127:=zeroValue266
 t138:=underlying395
 a138:=isAgg395
 z138:=sizeOf395
 v138:=zeroValue395
 t139:=underlying396
 a139:=isAgg396
 z139:=sizeOf396
 v139:=zeroValue396
 t160:=underlying397
 a160:=isAgg397
 z160:=sizeOf397
 v160:=zeroValue397
 t162:=underlying380
 a162:=isAgg380
 z162:=sizeOf380
 v162:=zeroValue380
 t164:=underlying317
 a164:=isAgg317
 z164:=sizeOf317
 v164:=zeroValue317
 t203:=underlying302
 a203:=isAgg302
 z203:=sizeOf302
 v203:=zeroValue302
 t206:=underlying405
 a206:=isAgg405
 z206:=sizeOf405
 v206:=zeroValue405
 t208:=underlying407
 a208:=isAgg407
 z208:=sizeOf407
 v208:=zeroValue407
 g3:=by kernel_rfl
 g4:=by kernel_rfl
 g13:=by kernel_rfl }
def Tryz.vQ:Builder.Extra prog Tryz.yU:={
 sizeBuilder:=by kernel_rfl
 liesBuilder:=by kernel_rfl
 t5:=underlying5
 a5:=isAgg5
 z5:=sizeOf5
 v5:=zeroValue5
 infoByte:=by kernel_rfl
 cellsByte:=by kernel_rfl
 sizeByte:=by kernel_rfl
 neB5:=by decide }
open Go.RowKit in
def Tryz.strings_ToUpper_ascii (s:ByteArray) (w:World) (c:s.size<=140737488355328) (a:∀(j:Nat) (b:UInt8),s.data.toList[j]? = some b->b.toNat<128) :
 Calls prog 196 #[.string s] w λe w'=>e=.returned (.string ⟨(Lib.toUpperA s.data.toList).toArray⟩)/\Below w.heap.size w w':=Any.strings_ToUpper_ascii Tryz.YG Tryz.vQ s w c a
def Tryz.qB:Go.Shelf.Ren:=⟨fun|156=>160|165=>200|166=>110|169=>113|240=>157|241=>236|276=>195|277=>262|n=>n,fun|31=>242|9=>9|3=>3|4=>4|0=>0|20=>20|72=>191|76=>199|70=>189|37=>163|75=>134|127=>266|164=>317|5=>5|80=>137|n=>n,fun|n=>n⟩
def Tryz.Gz:Go.Proofs.Lays.n156 prog Tryz.qB:={
 mixed:=by kernel_rfl
 f156:=zLf func160
 f165:=zLf func200
 f166:=zLf func110
 f169:=zLf func113
 f240:=zLf func157
 f241:=zLf func236
 f276:=zLf func195
 f277:=zLf func262
 t0:=underlying0
 a0:=isAgg0
 z0:=sizeOf0
 v0:=zeroValue0
 t3:=underlying3
 a3:=isAgg3
 z3:=sizeOf3
 v3:=zeroValue3
 t4:=underlying4
 a4:=isAgg4
 z4:=sizeOf4
 v4:=zeroValue4
 t9:=underlying9
 a9:=isAgg9
 z9:=sizeOf9
 v9:=zeroValue9
 t20:=underlying20
 a20:=isAgg20
 z20:=sizeOf20
 v20:=zeroValue20
 t31:=underlying242
 a31:=isAgg242
 z31:=sizeOf242
 v31:=zeroValue242
 t37:=underlying163
 a37:=isAgg163
 z37:=sizeOf163
 v37:=zeroValue163
 t70:=underlying189
 a70:=isAgg189
 z70:=sizeOf189
 v70:=zeroValue189
 t72:=underlying191
 a72:=isAgg191
 z72:=sizeOf191
 v72:=zeroValue191
 t75:=underlying134
 a75:=isAgg134
 z75:=sizeOf134
 v75:=zeroValue134
 t76:=underlying199
 a76:=isAgg199
 z76:=sizeOf199
 v76:=zeroValue199
 t127:=underlying266
 a127:=isAgg266
 z127:=sizeOf266
 v127:=zeroValue266
 t164:=underlying317
 a164:=isAgg317
 z164:=sizeOf317
 v164:=zeroValue317 }
def Tryz.iU:Builder.Extra prog Tryz.qB:={
 sizeBuilder:=by kernel_rfl
 liesBuilder:=by kernel_rfl
 t5:=underlying5
 a5:=isAgg5
 z5:=sizeOf5
 v5:=zeroValue5
 infoByte:=by kernel_rfl
 cellsByte:=by kernel_rfl
 sizeByte:=by kernel_rfl
 neB5:=by decide }
open Go.RowKit in
def Tryz.strings_Join_none (a:Option Addr) (c:Nat) (b:ByteArray) (w:World) :
 Calls prog 160 #[.slice a 0 c,.string b] w λe w'=>e=.returned (.string ⟨#[]⟩)/\w'=w:=Any.strings_Join_none Tryz.Gz Tryz.iU a c b w
open Go.RowKit in
def Tryz.strings_Join (h o c:Nat) (d:List ByteArray) (b:ByteArray) (w:World) (a:∀(j:Nat) x,d[j]? = some x->w.cell? ⟨h,o+j,none⟩=some (.string x)) (i:h<w.heap.size) (k:d.length<=140737488355328) (g:d.length<=c) (f:(Lib.join (d.map (·.data.toList)) b.data.toList).length<=140737488355328) :
 Calls prog 160 #[.slice (some ⟨h,o,none⟩) d.length c,.string b] w λe w'=>e=.returned (.string ⟨(Lib.join (d.map (·.data.toList)) b.data.toList).toArray⟩)/\Below w.heap.size w w':=Any.strings_Join Tryz.Gz Tryz.iU h o c d b w a i k g f
def Tryz.Jm:Go.Shelf.Ren:=⟨fun|160=>187|232=>218|231=>217|227=>219|234=>221|233=>220|236=>223|235=>222|228=>247|271=>250|151=>249|197=>248|120=>278|152=>277|260=>276|137=>210|119=>295|224=>274|225=>273|217=>240|266=>266|n=>n,fun|9=>9|4=>4|3=>3|5=>5|117=>341|116=>340|0=>0|124=>344|21=>21|105=>359|46=>110|119=>393|139=>396|138=>395|n=>n,fun|3=>4|4=>5|n=>n⟩
def Tryz.YH:Go.Proofs.Lays.n160 prog Tryz.Jm:={
 mixed:=by kernel_rfl
 f119:=zLf func295
 f120:=zLf func278
 f137:=zLf func210
 f151:=zLf func249
 f152:=zLf func277
 f160:=zLf func187
 f197:=zLf func248
 f217:=zLf func240
 f224:=zLf func274
 f225:=zLf func273
 f227:=zLf func219
 f228:=zLf func247
 f231:=zLf func217
 f232:=zLf func218
 f233:=zLf func220
 f234:=zLf func221
 f235:=zLf func222
 f236:=zLf func223
 f260:=zLf func276
 f266:=zLf func266
 f271:=zLf func250
 t0:=underlying0
 a0:=isAgg0
 z0:=sizeOf0
 v0:=zeroValue0
 t3:=underlying3
 a3:=isAgg3
 z3:=sizeOf3
 v3:=zeroValue3
 t4:=underlying4
 a4:=isAgg4
 z4:=sizeOf4
 v4:=zeroValue4
 t5:=underlying5
 a5:=isAgg5
 z5:=sizeOf5
 v5:=zeroValue5
 t9:=underlying9
 a9:=isAgg9
 z9:=sizeOf9
 v9:=zeroValue9
 t21:=underlying21
 a21:=isAgg21
 z21:=sizeOf21
 v21:=zeroValue21
 t46:=underlying110
 a46:=isAgg110
 z46:=sizeOf110
 v46:=zeroValue110
 t105:=underlying359
 a105:=isAgg359
 z105:=sizeOf359
 v105:=zeroValue359
 t116:=underlying340
 a116:=isAgg340
 z116:=sizeOf340
 t117:=underlying341
 a117:=isAgg341
 z117:=sizeOf341
 v117:=zeroValue341
 t119:=underlying393
 a119:=isAgg393
 z119:=sizeOf393
 t124:=underlying344
 a124:=isAgg344
 z124:=sizeOf344
 v124:=zeroValue344
 t138:=underlying395
 a138:=isAgg395
 z138:=sizeOf395
 v138:=zeroValue395
 t139:=underlying396
 a139:=isAgg396
 z139:=sizeOf396
 v139:=zeroValue396
 g3:=by kernel_rfl
 g4:=by kernel_rfl }
open Go.RowKit in
def Tryz.strings_Trim_one (s:ByteArray) (c:UInt8) (a:c.toNat<128) (w:World) (b:s.size<=9223372036854775807) :
 Calls prog 187 #[.string s,.string ⟨#[c]⟩] w λe w'=>e=.returned (.string ⟨(Lib.trimB s.data.toList c).toArray⟩)/\(w'=w\/w'=w.drew):=Any.strings_Trim_one Tryz.YH s c a w b
def Tryz.Jn:Go.Shelf.Ren:=⟨fun|125=>99|128=>144|129=>145|n=>n,fun|46=>110|3=>3|51=>109|53=>47|4=>4|5=>5|9=>9|n=>n,fun|n=>n⟩
def Tryz.YI:Go.Proofs.Lays.n125 prog Tryz.Jn:={
 mixed:=by kernel_rfl
 f125:=zLf func99
 f128:=zLf func144
 f129:=zLf func145
 t3:=underlying3
 a3:=isAgg3
 z3:=sizeOf3
 v3:=zeroValue3
 t4:=underlying4
 a4:=isAgg4
 z4:=sizeOf4
 v4:=zeroValue4
 t5:=underlying5
 a5:=isAgg5
 z5:=sizeOf5
 v5:=zeroValue5
 t9:=underlying9
 a9:=isAgg9
 z9:=sizeOf9
 v9:=zeroValue9
 t46:=underlying110
 a46:=isAgg110
 z46:=sizeOf110
 v46:=zeroValue110
 t51:=underlying109
 a51:=isAgg109
 z51:=sizeOf109
 v51:=zeroValue109
 t53:=underlying47
 a53:=isAgg47
 z53:=sizeOf47
 v53:=zeroValue47 }
def Tryz.bits_Len (x:Int) (w:World) (h0:0<=x) (a:x<=18446744073709551615) :
 Calls prog 99 #[.int .u64 x] w λe w'=>e=.returned (.int .i64 (Lib.bitLen x.toNat))/\w'=w:=Any.bits_Len Tryz.YI x w h0 a
def Tryz.Jo:Go.Shelf.Ren:=⟨fun|137=>210|217=>240|266=>266|n=>n,fun|9=>9|5=>5|3=>3|n=>n,fun|n=>n⟩
def Tryz.YJ:Go.Proofs.Lays.n137 prog Tryz.Jo:={
 mixed:=by kernel_rfl
 f137:=zLf func210
 f217:=zLf func240
 f266:=zLf func266
 t3:=underlying3
 a3:=isAgg3
 z3:=sizeOf3
 v3:=zeroValue3
 t5:=underlying5
 a5:=isAgg5
 z5:=sizeOf5
 v5:=zeroValue5
 t9:=underlying9
 a9:=isAgg9
 z9:=sizeOf9
 v9:=zeroValue9 }
open Go.RowKit in
def Tryz.strings_IndexByte (s:ByteArray) (c:Int) (w:World) :
 Calls prog 210 #[.string s,.int .u8 c] w λe w'=>e=.returned (.int .i64 (Lib.indexByte s.data.toList c.toNat.toUInt8))/\w'=w:=Any.strings_IndexByte Tryz.YJ s c w
def Tryz.Jp:Go.Shelf.Ren:=⟨fun|104=>215|211=>245|207=>241|n=>n,fun|9=>9|4=>4|24=>336|3=>3|n=>n,fun|n=>n⟩
def Tryz.YK:Go.Proofs.Lays.n104 prog Tryz.Jp:={
 mixed:=by kernel_rfl
 f104:=zLf func215
 f207:=zLf func241
 f211:=zLf func245
 t3:=underlying3
 a3:=isAgg3
 z3:=sizeOf3
 v3:=zeroValue3
 t4:=underlying4
 a4:=isAgg4
 z4:=sizeOf4
 v4:=zeroValue4
 t9:=underlying9
 a9:=isAgg9
 z9:=sizeOf9
 v9:=zeroValue9
 t24:=underlying336
 a24:=isAgg336
 z24:=sizeOf336
 v24:=zeroValue336 }
open Go.RowKit in
def Tryz.strings_CutSuffix (s p:ByteArray) (w:World) (a:s.size<=9223372036854775807) :
 Calls prog 215 #[.string s,.string p] w λe w'=>e=.returned (.tuple #[.string ⟨(Lib.trimSuffix s.data.toList p.data.toList).toArray⟩,.bool (Lib.hasSuffix s.data.toList p.data.toList)])/\w'=w:=Any.strings_CutSuffix Tryz.YK s p w a
def Tryz.Jq:Go.Shelf.Ren:=⟨fun|172=>243|244=>270|245=>271|247=>288|279=>289|280=>290|281=>291|282=>292|287=>302|316=>303|171=>159|205=>304|321=>306|322=>307|243=>199|246=>232|283=>255|284=>256|285=>257|286=>258|129=>145|317=>281|318=>282|319=>283|320=>284|337=>299|338=>300|n=>n,fun|9=>9|3=>3|75=>134|76=>199|4=>4|5=>5|167=>385|37=>163|0=>0|85=>386|2=>2|168=>388|53=>47|175=>400|46=>110|210=>403|127=>266|145=>413|143=>411|21=>21|171=>364|173=>366|212=>382|51=>109|20=>20|213=>383|232=>408|233=>409|80=>137|n=>n,fun|15=>6|16=>7|17=>3|18=>8|19=>9|n=>n⟩
def Tryz.YL:Go.Proofs.Lays.n172 prog Tryz.Jq:={
 mixed:=by kernel_rfl
 f129:=zLf func145
 f171:=zLf func159
 f172:=zLf func243
 f205:=zLf func304
 f243:=zLf func199
 f244:=zLf func270
 f245:=zLf func271
 f246:=zLf func232
 f247:=zLf func288
 f279:=zLf func289
 f280:=zLf func290
 f281:=zLf func291
 f282:=zLf func292
 f283:=zLf func255
 f284:=zLf func256
 f285:=zLf func257
 f286:=zLf func258
 f287:=zLf func302
 f316:=zLf func303
 f317:=zLf func281
 f318:=zLf func282
 f319:=zLf func283
 f320:=zLf func284
 f321:=zLf func306
 f322:=zLf func307
 f337:=zLf func299
 f338:=zLf func300
 t0:=underlying0
 a0:=isAgg0
 z0:=sizeOf0
 v0:=zeroValue0
 t2:=underlying2
 a2:=isAgg2
 z2:=sizeOf2
 v2:=zeroValue2
 t3:=underlying3
 a3:=isAgg3
 z3:=sizeOf3
 v3:=zeroValue3
 t4:=underlying4
 a4:=isAgg4
 z4:=sizeOf4
 v4:=zeroValue4
 t5:=underlying5
 a5:=isAgg5
 z5:=sizeOf5
 v5:=zeroValue5
 t9:=underlying9
 a9:=isAgg9
 z9:=sizeOf9
 v9:=zeroValue9
 t20:=underlying20
 a20:=isAgg20
 z20:=sizeOf20
 v20:=zeroValue20
 t21:=underlying21
 a21:=isAgg21
 z21:=sizeOf21
 v21:=zeroValue21
 t37:=underlying163
 a37:=isAgg163
 z37:=sizeOf163
 v37:=zeroValue163
 t46:=underlying110
 a46:=isAgg110
 z46:=sizeOf110
 v46:=zeroValue110
 t51:=underlying109
 a51:=isAgg109
 z51:=sizeOf109
 v51:=zeroValue109
 t53:=underlying47
 a53:=isAgg47
 z53:=sizeOf47
 v53:=zeroValue47
 t75:=underlying134
 a75:=isAgg134
 z75:=sizeOf134
 v75:=zeroValue134
 t76:=underlying199
 a76:=isAgg199
 z76:=sizeOf199
 v76:=zeroValue199
 t85:=underlying386
 a85:=isAgg386
 z85:=sizeOf386
 v85:=zeroValue386
 t127:=underlying266
 a127:=isAgg266
 z127:=sizeOf266
 v127:=zeroValue266
 t143:=underlying411
 a143:=isAgg411
 z143:=sizeOf411
 v143:=zeroValue411
 t145:=underlying413
 a145:=isAgg413
 z145:=sizeOf413
 v145:=zeroValue413
 t167:=underlying385
 a167:=isAgg385
 z167:=sizeOf385
 v167:=zeroValue385
 t168:=underlying388
 a168:=isAgg388
 z168:=sizeOf388
 v168:=zeroValue388
 t171:=underlying364
 a171:=isAgg364
 z171:=sizeOf364
 v171:=zeroValue364
 t173:=underlying366
 a173:=isAgg366
 z173:=sizeOf366
 v173:=zeroValue366
 t175:=underlying400
 a175:=isAgg400
 z175:=sizeOf400
 v175:=zeroValue400
 t210:=underlying403
 a210:=isAgg403
 z210:=sizeOf403
 v210:=zeroValue403
 t212:=underlying382
 a212:=isAgg382
 z212:=sizeOf382
 v212:=zeroValue382
 t213:=underlying383
 a213:=isAgg383
 z213:=sizeOf383
 t232:=underlying408
 a232:=isAgg408
 z232:=sizeOf408
 v232:=zeroValue408
 t233:=underlying409
 a233:=isAgg409
 z233:=sizeOf409
 v233:=zeroValue409
 g15:=by kernel_rfl
 g16:=by kernel_rfl
 g17:=by kernel_rfl
 g18:=by kernel_rfl
 g19:=by kernel_rfl }
open Go.RowKit in
def Tryz.strconv_Atoi (s:ByteArray) (n:Int) (a:s.size<=18) (h:Lib.atoi s.data.toList=some n) (w:World) :
 Calls prog 243 #[.string s] w λe w'=>e=.returned (.tuple #[.int .i64 n,.nilIface])/\∃t,w'=Lib.bytesWorld w 5 t:=Any.strconv_Atoi Tryz.YL s n a h w
def Tryz.GA:Go.Shelf.Ren:=⟨fun|171=>159|243=>199|246=>232|283=>255|284=>256|285=>257|286=>258|129=>145|317=>281|318=>282|319=>283|320=>284|337=>299|338=>300|n=>n,fun|3=>3|9=>9|2=>2|4=>4|171=>364|0=>0|53=>47|37=>163|5=>5|173=>366|212=>382|51=>109|20=>20|213=>383|46=>110|232=>408|233=>409|n=>n,fun|17=>3|18=>8|19=>9|n=>n⟩
def Tryz.UH:Go.Proofs.LaysM.n171 prog Tryz.GA:={
 mixed:=by kernel_rfl
 f129:=zLf func145
 f171:=zLf func159
 f243:=zLf func199
 f246:=zLf func232
 f283:=zLf func255
 f284:=zLf func256
 f285:=zLf func257
 f286:=zLf func258
 f317:=zLf func281
 f318:=zLf func282
 f319:=zLf func283
 f320:=zLf func284
 f337:=zLf func299
 f338:=zLf func300
 t0:=underlying0
 a0:=isAgg0
 z0:=sizeOf0
 v0:=zeroValue0
 t2:=underlying2
 a2:=isAgg2
 z2:=sizeOf2
 v2:=zeroValue2
 t3:=underlying3
 a3:=isAgg3
 z3:=sizeOf3
 v3:=zeroValue3
 t4:=underlying4
 a4:=isAgg4
 z4:=sizeOf4
 v4:=zeroValue4
 t5:=underlying5
 a5:=isAgg5
 z5:=sizeOf5
 v5:=zeroValue5
 t9:=underlying9
 a9:=isAgg9
 z9:=sizeOf9
 v9:=zeroValue9
 t20:=underlying20
 a20:=isAgg20
 z20:=sizeOf20
 v20:=zeroValue20
 t37:=underlying163
 a37:=isAgg163
 z37:=sizeOf163
 v37:=zeroValue163
 t46:=underlying110
 a46:=isAgg110
 z46:=sizeOf110
 v46:=zeroValue110
 t51:=underlying109
 a51:=isAgg109
 z51:=sizeOf109
 v51:=zeroValue109
 t53:=underlying47
 a53:=isAgg47
 z53:=sizeOf47
 v53:=zeroValue47
 t171:=underlying364
 a171:=isAgg364
 z171:=sizeOf364
 v171:=zeroValue364
 t173:=underlying366
 a173:=isAgg366
 z173:=sizeOf366
 v173:=zeroValue366
 t212:=underlying382
 a212:=isAgg382
 z212:=sizeOf382
 v212:=zeroValue382
 t213:=underlying383
 a213:=isAgg383
 z213:=sizeOf383
 t232:=underlying408
 a232:=isAgg408
 z232:=sizeOf408
 v232:=zeroValue408
 t233:=underlying409
 a233:=isAgg409
 z233:=sizeOf409
 v233:=zeroValue409
 g17:=by kernel_rfl
 g18:=by kernel_rfl
 g19:=by kernel_rfl
 i0:=by kernel_rfl
 i2:=by kernel_rfl
 i3:=by kernel_rfl
 i4:=by kernel_rfl
 i5:=by kernel_rfl
 i9:=by kernel_rfl
 i20:=by kernel_rfl
 i37:=by kernel_rfl
 i46:=by kernel_rfl
 i51:=by kernel_rfl
 i53:=by kernel_rfl
 i171:=by kernel_rfl
 i173:=by kernel_rfl
 i212:=by kernel_rfl
 i232:=by kernel_rfl
 i233:=by kernel_rfl
 m17:=by kernel_rfl
 m18:=by kernel_rfl
 m19:=by kernel_rfl }
open Go.RowKit Go.Sort Go.Lib in
theorem Tryz.strconv_Itoa (n:Int) (h0:-9223372036854775808<=n) (h1:n<=9223372036854775807) (w:World) (htab:Lib.TabIs prog w "internal/strconv.uint64pow10" .u64 Lib.pow10Tab) :
 Calls prog 159 #[.int .i64 n] w fun e w'=>e=.returned (.string ⟨(Lib.itoa n).toArray⟩)∧∃k os,w'=grow (w.drewN k) os:=Any.strconv_Itoa Tryz.UH n h0 h1 w htab
def Tryz.Jr:Go.Shelf.Ren:=⟨fun|143=>269|219=>246|217=>240|225=>273|224=>274|267=>275|266=>266|314=>294|n=>n,fun|9=>9|3=>3|4=>4|5=>5|46=>110|146=>368|51=>109|n=>n,fun|1=>1|n=>n⟩
def Tryz.YM:Go.Proofs.Lays.n143 prog Tryz.Jr:={
 mixed:=by kernel_rfl
 f143:=zLf func269
 f217:=zLf func240
 f219:=zLf func246
 f224:=zLf func274
 f225:=zLf func273
 f266:=zLf func266
 f267:=zLf func275
 f314:=zLf func294
 t3:=underlying3
 a3:=isAgg3
 z3:=sizeOf3
 v3:=zeroValue3
 t4:=underlying4
 a4:=isAgg4
 z4:=sizeOf4
 v4:=zeroValue4
 t5:=underlying5
 a5:=isAgg5
 z5:=sizeOf5
 v5:=zeroValue5
 t9:=underlying9
 a9:=isAgg9
 z9:=sizeOf9
 v9:=zeroValue9
 t46:=underlying110
 a46:=isAgg110
 z46:=sizeOf110
 v46:=zeroValue110
 t51:=underlying109
 a51:=isAgg109
 z51:=sizeOf109
 v51:=zeroValue109
 t146:=underlying368
 a146:=isAgg368
 z146:=sizeOf368
 v146:=zeroValue368
 g1:=by kernel_rfl }
open Go.RowKit Go.Lib in
def Tryz.strings_Index_one (s:ByteArray) (c:UInt8) (w:World) :
 Calls prog 269 #[.string s,.string ⟨#[c]⟩] w λe w'=>e=.returned (.int .i64 (Lib.indexByte s.data.toList c))/\w'=w:=Any.strings_Index_one Tryz.YM s c w
def Tryz.Js:Go.Shelf.Ren:=⟨fun|145=>186|220=>216|219=>246|217=>240|225=>273|224=>274|267=>275|266=>266|314=>294|n=>n,fun|9=>9|4=>4|59=>300|3=>3|5=>5|46=>110|146=>368|51=>109|n=>n,fun|1=>1|n=>n⟩
def Tryz.YN:Go.Proofs.Lays.n145 prog Tryz.Js:={
 mixed:=by kernel_rfl
 f145:=zLf func186
 f217:=zLf func240
 f219:=zLf func246
 f220:=zLf func216
 f224:=zLf func274
 f225:=zLf func273
 f266:=zLf func266
 f267:=zLf func275
 f314:=zLf func294
 t3:=underlying3
 a3:=isAgg3
 z3:=sizeOf3
 v3:=zeroValue3
 t4:=underlying4
 a4:=isAgg4
 z4:=sizeOf4
 v4:=zeroValue4
 t5:=underlying5
 a5:=isAgg5
 z5:=sizeOf5
 v5:=zeroValue5
 t9:=underlying9
 a9:=isAgg9
 z9:=sizeOf9
 v9:=zeroValue9
 t46:=underlying110
 a46:=isAgg110
 z46:=sizeOf110
 v46:=zeroValue110
 t51:=underlying109
 a51:=isAgg109
 z51:=sizeOf109
 v51:=zeroValue109
 t59:=underlying300
 a59:=isAgg300
 z59:=sizeOf300
 v59:=zeroValue300
 t146:=underlying368
 a146:=isAgg368
 z146:=sizeOf368
 v146:=zeroValue368
 g1:=by kernel_rfl }
open Go.RowKit Go.Lib in
def Tryz.strings_Cut (s a:ByteArray) (m:Int) (w:World) (b:s.size<4294967281) (c:w.cell? ⟨1,0,none⟩=some (.int .i64 m)) :
 Calls prog 186 #[.string s,.string a] w λe w'=>e=.returned (.tuple #[.string ⟨(Lib.cut s.data.toList a.data.toList).1.toArray⟩,.string ⟨(Lib.cut s.data.toList a.data.toList).2.1.toArray⟩,.bool (Lib.cut s.data.toList a.data.toList).2.2])/\∃n,w'=w.drewN n:=Any.strings_Cut Tryz.YN s a m w b c
def Tryz.Jt:Go.Shelf.Ren:=⟨fun|102=>180|209=>211|207=>241|n=>n,fun|9=>9|4=>4|3=>3|n=>n,fun|n=>n⟩
def Tryz.YO:Go.Proofs.Lays.n102 prog Tryz.Jt:={
 mixed:=by kernel_rfl
 f102:=zLf func180
 f207:=zLf func241
 f209:=zLf func211
 t3:=underlying3
 a3:=isAgg3
 z3:=sizeOf3
 v3:=zeroValue3
 t4:=underlying4
 a4:=isAgg4
 z4:=sizeOf4
 v4:=zeroValue4
 t9:=underlying9
 a9:=isAgg9
 z9:=sizeOf9
 v9:=zeroValue9 }
open Go.RowKit Go.Lib in
def Tryz.strings_TrimSuffix (s p:ByteArray) (w:World) (a:s.size<=9223372036854775807) :
 Calls prog 180 #[.string s,.string p] w λe w'=>e=.returned (.string ⟨(Lib.trimSuffix s.data.toList p.data.toList).toArray⟩)/\w'=w:=Any.strings_TrimSuffix Tryz.YO s p w a
def Tryz.Ju:Go.Shelf.Ren:=⟨fun|146=>212|221=>242|268=>267|138=>268|143=>269|195=>286|197=>248|218=>287|219=>246|260=>276|217=>240|225=>273|224=>274|267=>275|266=>266|314=>294|n=>n,fun|9=>9|31=>242|3=>3|4=>4|0=>0|105=>359|21=>21|5=>5|46=>110|119=>393|139=>396|138=>395|146=>368|51=>109|n=>n,fun|1=>1|3=>4|4=>5|n=>n⟩
def Tryz.YP:Go.Proofs.Lays.n146 prog Tryz.Ju:={
 mixed:=by kernel_rfl
 f138:=zLf func268
 f143:=zLf func269
 f146:=zLf func212
 f195:=zLf func286
 f197:=zLf func248
 f217:=zLf func240
 f218:=zLf func287
 f219:=zLf func246
 f221:=zLf func242
 f224:=zLf func274
 f225:=zLf func273
 f260:=zLf func276
 f266:=zLf func266
 f267:=zLf func275
 f268:=zLf func267
 f314:=zLf func294
 t0:=underlying0
 a0:=isAgg0
 z0:=sizeOf0
 v0:=zeroValue0
 t3:=underlying3
 a3:=isAgg3
 z3:=sizeOf3
 v3:=zeroValue3
 t4:=underlying4
 a4:=isAgg4
 z4:=sizeOf4
 v4:=zeroValue4
 t5:=underlying5
 a5:=isAgg5
 z5:=sizeOf5
 v5:=zeroValue5
 t9:=underlying9
 a9:=isAgg9
 z9:=sizeOf9
 v9:=zeroValue9
 t21:=underlying21
 a21:=isAgg21
 z21:=sizeOf21
 v21:=zeroValue21
 t31:=underlying242
 a31:=isAgg242
 z31:=sizeOf242
 v31:=zeroValue242
 t46:=underlying110
 a46:=isAgg110
 z46:=sizeOf110
 v46:=zeroValue110
 t51:=underlying109
 a51:=isAgg109
 z51:=sizeOf109
 v51:=zeroValue109
 t105:=underlying359
 a105:=isAgg359
 z105:=sizeOf359
 v105:=zeroValue359
 t119:=underlying393
 a119:=isAgg393
 z119:=sizeOf393
 t138:=underlying395
 a138:=isAgg395
 z138:=sizeOf395
 v138:=zeroValue395
 t139:=underlying396
 a139:=isAgg396
 z139:=sizeOf396
 v139:=zeroValue396
 t146:=underlying368
 a146:=isAgg368
 z146:=sizeOf368
 v146:=zeroValue368
 g1:=by kernel_rfl
 g3:=by kernel_rfl
 g4:=by kernel_rfl }
open Go.RowKit Go.Lib in
def Tryz.strings_Split (s a:ByteArray) (m:Int) (w:World) (c:s.size<4294967281) (d:w.cell? ⟨1,0,none⟩=some (.int .i64 m)) (b:1<=a.size) :
 Calls prog 212 #[.string s,.string a] w λe w'=>
  e=.returned (.slice (some ⟨w.heap.size,0,none⟩) (Lib.countB s a+1) (Lib.countB s a+1))/\w'=w.alloc (.cells ((Lib.splitB a 0 (Lib.countB s a) s).map Value.string).toArray 9):=Any.strings_Split Tryz.YP (by kernel_rfl) s a m w c d b
def Tryz.yV:Go.Shelf.Ren:=⟨fun|105=>198|212=>233|99=>234|165=>200|166=>110|170=>235|169=>113|263=>259|264=>260|206=>261|240=>157|241=>236|276=>195|277=>262|n=>n,fun|9=>9|3=>3|4=>4|20=>20|0=>0|46=>110|109=>351|5=>5|72=>191|76=>199|51=>109|146=>368|53=>47|148=>370|70=>189|37=>163|75=>134|127=>266|164=>317|80=>137|n=>n,fun|n=>n⟩
def Tryz.YQ:Go.Proofs.Lays.n105 prog Tryz.yV:={
 mixed:=by kernel_rfl
 f99:=zLf func234
 f105:=zLf func198
 f165:=zLf func200
 f166:=zLf func110
 f169:=zLf func113
 f170:=zLf func235
 f206:=zLf func261
 f212:=zLf func233
 f240:=zLf func157
 f241:=zLf func236
 f263:=zLf func259
 f264:=zLf func260
 f276:=zLf func195
 f277:=zLf func262
 t0:=underlying0
 a0:=isAgg0
 z0:=sizeOf0
 v0:=zeroValue0
 t3:=underlying3
 a3:=isAgg3
 z3:=sizeOf3
 v3:=zeroValue3
 t4:=underlying4
 a4:=isAgg4
 z4:=sizeOf4
 v4:=zeroValue4
 t5:=underlying5
 a5:=isAgg5
 z5:=sizeOf5
 v5:=zeroValue5
 t9:=underlying9
 a9:=isAgg9
 z9:=sizeOf9
 v9:=zeroValue9
 t20:=underlying20
 a20:=isAgg20
 z20:=sizeOf20
 v20:=zeroValue20
 t37:=underlying163
 a37:=isAgg163
 z37:=sizeOf163
 v37:=zeroValue163
 t46:=underlying110
 a46:=isAgg110
 z46:=sizeOf110
 v46:=zeroValue110
 t51:=underlying109
 a51:=isAgg109
 z51:=sizeOf109
 v51:=zeroValue109
 t53:=underlying47
 a53:=isAgg47
 z53:=sizeOf47
 v53:=zeroValue47
 t70:=underlying189
 a70:=isAgg189
 z70:=sizeOf189
 v70:=zeroValue189
 t72:=underlying191
 a72:=isAgg191
 z72:=sizeOf191
 v72:=zeroValue191
 t75:=underlying134
 a75:=isAgg134
 z75:=sizeOf134
 v75:=zeroValue134
 t76:=underlying199
 a76:=isAgg199
 z76:=sizeOf199
 v76:=zeroValue199
 t109:=underlying351
 a109:=isAgg351
 z109:=sizeOf351
 v109:=zeroValue351
 t127:=underlying266
 a127:=isAgg266
 z127:=sizeOf266
 v127:=zeroValue266
 t146:=underlying368
 a146:=isAgg368
 z146:=sizeOf368
 v146:=zeroValue368
 t148:=underlying370
 a148:=isAgg370
 z148:=sizeOf370
 v148:=zeroValue370
 t164:=underlying317
 a164:=isAgg317
 z164:=sizeOf317
 v164:=zeroValue317 }
def Tryz.vR:Builder.Extra prog Tryz.yV:={
 sizeBuilder:=by kernel_rfl
 liesBuilder:=by kernel_rfl
 t5:=underlying5
 a5:=isAgg5
 z5:=sizeOf5
 v5:=zeroValue5
 infoByte:=by kernel_rfl
 cellsByte:=by kernel_rfl
 sizeByte:=by kernel_rfl
 neB5:=by decide }
open Go.RowKit Go.Lib in
def Tryz.strings_Repeat (s:ByteArray) (c:Nat) (w:World) (b:c<=9223372036854775807) (a:s.size*c<=140737488355328) :
 Calls prog 198 #[.string s,.int .i64 c] w λe w'=>e=.returned (.string ⟨(Lib.repeatL s.data.toList c).toArray⟩)/\Below w.heap.size w w':=Any.strings_Repeat Tryz.YQ Tryz.vR s c w b a
def Tryz.Dz:Go.Shelf.Ren:=⟨fun|15=>103|n=>n,fun|22=>23|3=>3|4=>4|n=>n,fun|n=>n⟩
def Tryz.xK:Go.Proofs.Lays2.n15 prog Tryz.Dz:={
 mixed:=by kernel_rfl
 f15:=zLf func103
 t3:=underlying3
 a3:=isAgg3
 z3:=sizeOf3
 v3:=zeroValue3
 t4:=underlying4
 a4:=isAgg4
 z4:=sizeOf4
 v4:=zeroValue4
 t22:=underlying23
 a22:=isAgg23
 z22:=sizeOf23
 v22:=zeroValue23
 i3:=by kernel_rfl }
open Go.RowKit Go.Lib in
def Tryz.slices_Clone_int (b off n c:Nat) (zs:List Int) (w:World) (f:n<=zs.length) (a:n*8<=140737488355328) (d:∀j,j<zs.length->w.cell? ⟨b,off+j,none⟩=some (.int .i64 (zs.getD j 0))) :
 Calls prog 103 #[.slice (some ⟨b,off,none⟩) n c] w λe w'=>∃v',e=.returned v'/\w'.ownsRow w.heap.size 3 1 v' n ((zs.take n).map (Value.int .i64))/\v'≠.slice none 0 0/\Below w.heap.size w w':=Any.slices_Clone_int Tryz.xK b off n c zs w f a d
open Go.RowKit Go.Lib in
def Tryz.slices_Clone_int_nil (n c:Nat) (w:World) :
 Calls prog 103 #[.slice none n c] w λe w'=>e=.returned (.slice none 0 0)/\w'=w:=Any.slices_Clone_int_nil Tryz.xK n c w
open Go.RowKit Go.Lib in
def Tryz.slices_Clone_int_zero (a:Addr) (c:Nat) (w:World) :
 Calls prog 103 #[.slice (some a) 0 c] w λe w'=>∃v',e=.returned v'/\w'.ownsRow w.heap.size 3 1 v' 0 []/\v'≠.slice none 0 0/\Below w.heap.size w w':=Any.slices_Clone_int_zero Tryz.xK a c w
end
end Go.Proofs
namespace Go.Proofs.YtmnimbnojdndmaaGreatDoor
open Go.RowKit Go.Sort _root_.Go.Proofs.Tryz
abbrev encR:Int->Value:=λx=>Value.int .i32 x
def xL (x:Int) (w:World):Calls prog 178 #[.int .i32 x] w λe w'=>e=.returned (.bool false)/\w'=w:=by
 go_enter func178,ntmps178;go_wp2;go_ret;exact⟨by simp,rfl⟩
def aK (x y:Int) (w:World):Calls prog 141 #[.int .i32 x,.int .i32 y] w λe w'=>e=.returned (.bool (Sort.ltInt x y))/\w'=w:=by
 go_enter func141,ntmps141;go_wp2_with (go_at_call 178;refine(xL _ _).mono ?_;rintro e w'⟨rfl,rfl⟩);go_ret;exact⟨rfl,rfl⟩
def qC (c off cap a b:Nat) (d:Array Int) (w:World) (s:Holds (Value.int .i32) w c off d) (Q:a<=b) (W:b<=d.size) (L:d.size<4611686018427387904) :
 Calls prog 135 #[.slice (some ⟨c,off,none⟩) d.size cap,.int .i64 a,.int .i64 b] w λe w'=>
  e=.returned (.tuple #[])/\∃n,w'=putRow (Value.int .i32) (Sort.ahead w n) c off (Sort.insertionSort ltInt d a b):=by
 go_enter func135,ntmps135;go_wp2
 go_loopw [6] (λv wr=>∃(i n:Nat) (h:Array Int),v=.int .i64 i/\a<i/\i<=b+1/\h.size=d.size/\wr=putRow (Value.int .i32) (Sort.ahead w n) c off h/\
  insOuter ltInt a b i h=insOuter ltInt a b (a+1) d) (λv _=>b+1-(intOf v).toNat)
 case atStart=>exact⟨a+1,0,d,by go_num,by omega,by omega,rfl,(putRow_self _ _ _ _ _ s).symm,rfl⟩
 case round=>
  obtain⟨i,n,h,rfl,R,N,B,U,I⟩:=hrel;have J:Hid (insOuter ltInt a b i h=insOuter ltInt a b (a+1) d):=I;clear I;go_wp2
  ·
   go_loopw [7] (λA E=>∃(j m:Nat) (f:Array Int),A=.int .i64 j/\a<=j/\j<=i/\f.size=d.size/\E=putRow (Value.int .i32) (Sort.ahead w m) c off f/\
    insInner ltInt a j f=insInner ltInt a i h) (λA _=>(intOf A).toNat)
   case atStart=>exact⟨i,n,h,rfl,by omega,gw _,B,rfl,rfl⟩
   case round=>
    obtain⟨j,m,f,rfl,T,P,k,g,hI⟩:=hrel;have D:i<b:=by assumption
    obtain⟨G,x⟩:∃G:Nat->Int,∀t,G t=f[t]!:=⟨λt=>f[t]!,λ_=>rfl⟩;have:∀t,t<d.size->wr.cell? ⟨c,off+t,none⟩=some (.int .i32 (G t)):=λt F=>by
     rw[g,x];exact cell?_putRow _ _ _ _ d f (holds_ahead _ _ _ _ _ _ s) k t (by omega)
    have:∀t,t<d.size->wr.frozen? ⟨c,off+t,none⟩=false:=λt F=>by
     rw[g,frozen?_putRow];exact((holds_ahead _ _ m _ _ _ s) t F).2
    have H:Hid (wr=putRow (Value.int .i32) (Sort.ahead w m) c off f):=g;have o:Hid (∀t,G t=f[t]!):=x;have K:Hid (insInner ltInt a j f=insInner ltInt a i h):=hI;clear g x hI s;have r:(j<=a\/ltInt f[j]! f[j-1]! = false)->∀q,∃u M l,Value.int .i64 ((i:Int)+1)=.int .i64 (u:Nat)/\a<u/\u<=b+1/\l.size=d.size/\
     wr.drewN q=putRow (Value.int .i32) (Sort.ahead w M) c off l/\insOuter ltInt a b u l=insOuter ltInt a b (a+1) d:=λV q=>
     ⟨i+1,m+q,f,by go_num,by omega,by omega,k,by rw[H.out];exact putRow_drewN _ _ _ _ _ _ _,
       by rw[<-J.out,insOuter_go _ _ _ _ _ D,<-K.out,insInner_stop _ _ _ _ V]⟩
    have p:Hid _:=r;clear r;go_wp2;by_cases z:a<j
    ·go_quiet (first|(go_at_call 141;refine ju (aK _ _ _)));go_wp2
     ·
      have y:ltInt (G j) (G (j-1))=true:=by assumption
      go_region
      all_goals go_wp2
      go_roundw
      case rel=>
       refine⟨j-1,m+(nq+1),swp f j (j-1),by congr 1;omega,by omega,by omega,by rw[size_swp];exact k,?_,?_⟩
       ·rw[H.out,o.out,o.out];exact swap_worldA _ w m (nq+1) c off f j (j-1) (by omega) (by omega)
       rw[<-K.out,insInner_go ltInt a j f z (by rw[<-o.out,<-o.out];exact y)]
      case measure=>simp[intOf];omega
     ·
      have y:ltInt (G j) (G (j-1))=false:=by assumption
      go_roundw
      case rel=>exact p.out (Or.inr (by rw[<-o.out,<-o.out];exact y)) nq
      case measure=>simp[intOf];omega
    go_quiet (first|(go_at_call 141;refine ju (aK _ _ _)));go_wp2;go_roundw
    case rel=>exact p.out (Or.inl (by omega)) nq
    case measure=>simp[intOf];omega
  ·
   have C:¬i<b:=by assumption
   go_end0
   exact⟨rfl,n,by unfold Sort.insertionSort;rw[<-J.out,insOuter_stop _ _ _ _ _ C]⟩
def sM (c off cap:Nat) (d:Array Int) (a b:Nat) (w:World) (s:Holds encR w c off d) (z:a<=b) (D:b<=d.size) (x:d.size<4611686018427387904) :
 Calls prog 139 #[.slice (some ⟨c,off,none⟩) d.size cap,.int .i64 a,.int .i64 b] w λe w'=>e=.returned (.tuple #[])/\∃n,w'=putRow encR (Sort.ahead w n) c off (reverseRange d a b):=by
 go_enter func139,ntmps139;go_wp2
 go_loopg [6,7] (b-a) (λk s6 s7 wr=>∃(i f:Nat) (o:Int) (g:Array Int) (n:Nat),s6=.int .i64 i/\s7=.int .i64 o/\((i:Int)<o->o=f/\f<d.size)/\(¬(i:Int)<o->¬i<f)/\f-i<=k/\
  g.size=d.size/\wr=putRow encR (Sort.ahead w n) c off g/\reverseLoop i f g=reverseLoop a (b-1) d)
 case atStart=>exact⟨a,b-1,(b:Int)-1,d,0,rfl,rfl,λh=>⟨by omega,by omega⟩,λh=>by omega,by omega,rfl,(putRow_self encR w c off d s).symm,rfl⟩
 case round=>
  obtain⟨i,f,o,g,n,rfl,rfl,v,u,F,p,m,j⟩:=hrel;by_cases q:(i:Int)<o
  ·obtain⟨rfl,y⟩:=v q;have t:i<f:=by omega
   have l:Holds encR wr c off g:=by rw[m];exact holds_putRow encR _ c off d g (holds_ahead encR w n c off d s) p
   obtain⟨B,C⟩:=l i (by omega);obtain⟨G,E⟩:=l f (by omega);have A:Aside (wr=putRow encR (Sort.ahead w n) c off g):=m;clear m l s v u;go_wp2_with fail;go_region;go_wp2
   go_roundg (f-1-(i+1))
   case measure=>omega
   case rel=>
    rw[reverseLoop,if_pos t] at j
    exact⟨i+1,f-1,(f:Int)-1,swp g i f,n+1,by simp,rfl,λh=>⟨by omega,by omega⟩,λh=>by omega,gw _,by rw[size_swp];exact p,
     swap_world encR (by omega) (by omega) A.out (by simp[encR,getElem!_pos,show f<g.size by omega]) rfl,j⟩
  have r:=u q;go_wp2
  go_end0
  refine⟨rfl,n,?_⟩;rw[reverseLoop,if_neg r] at j;rw[reverseRange,<-j]
theorem kH (c off cap a b:Nat) (d:Array Int) (w:World) (hH:Holds (Value.int .i32) w c off d) (ak:a<b) (hb:b<=d.size) (ad:d.size<4611686018427387904) :
 Calls prog 140 #[.slice (some ⟨c,off,none⟩) d.size cap,.int .i64 a,.int .i64 b] w fun e w'=>
  e=.returned (.bool (Sort.partialInsertionSort ltInt d a b).2)∧∃n,w'=putRow (Value.int .i32) (Sort.ahead w n) c off (Sort.partialInsertionSort ltInt d a b).1:=by
 have J:Hid (Holds (Value.int .i32) w c off d):=hH;have aa:Hid (w=putRow (Value.int .i32) (Sort.ahead w 0) c off d):=(putRow_self _ _ _ _ _ hH).symm;clear hH;go_enter func140,ntmps140;go_wp2
 go_loopw [7,8] (fun R vs wr=>∃(i s n:Nat) (g:Array Int),R=.int .i64 i∧vs=.int .i64 s∧s<=5∧a<i∧i<=b∧g.size=d.size∧wr=putRow (Value.int .i32) (Sort.ahead w n) c off g∧
  partialIns ltInt a b (5-s) i g=partialIns ltInt a b 5 (a+1) d) (fun _ vs _=>5-(intOf vs).toNat)
 case atStart=>exact⟨a+1,0,0,d,by go_num,rfl,by omega,by omega,by omega,rfl,aa.out,rfl⟩
 case round=>
  obtain⟨i,s,n,g,rfl,rfl,ah,aj,Y,X,ai,hO⟩:=hrel;have D:Hid (partialIns ltInt a b (5-s) i g=partialIns ltInt a b 5 (a+1) d):=hO;clear hO;go_wp2
  ·
   have E:s<5:=by omega
   go_loopw [7] (fun R y=>∃(k m:Nat),R=.int .i64 k∧i<=k∧k<=b∧y=putRow (Value.int .i32) (Sort.ahead w m) c off g∧scanSorted ltInt g b k=scanSorted ltInt g b i) (fun R _=>b-(intOf R).toNat)
   case atStart=>exact⟨i,n,rfl,gw _,Y,rfl,rfl⟩
   case round=>
    obtain⟨k,m,rfl,ac,ae,x,hS⟩:=hrel;obtain⟨G,z⟩:∃G:Nat->Int,∀t,G t=g[t]!:=⟨fun t=>g[t]!,fun _=>rfl⟩;have L:∀t,t<d.size->wr.cell? ⟨c,off+t,none⟩=some (.int .i32 (G t)):=fun t B=>by
     rw[x,z];exact cell?_putRow _ _ _ _ d g (holds_ahead _ _ _ _ _ _ J.out) X t (by omega)
    have K:∀t,t<d.size->wr.frozen? ⟨c,off+t,none⟩=false:=fun t B=>by
     rw[x,frozen?_putRow];exact((holds_ahead _ _ m _ _ _ J.out) t B).2
    have l:Hid (wr=putRow (Value.int .i32) (Sort.ahead w m) c off g):=x;have p:Hid (∀t,G t=g[t]!):=z;have Z:Hid (scanSorted ltInt g b k=scanSorted ltInt g b i):=hS;clear x z hS;go_wp2;by_cases W:k<b
    ·go_quiet (first|(go_at_call 141;refine ju (aK _ _ _)));go_wp2
     all_goals first
      | (at_end
         have v:ltInt (G k) (G (k-1))=false:=by
          have h:(!ltInt (G k) (G (k-1)))=true:=by assumption
          simpa using h
         go_roundw
         case rel=>exact⟨k+1,m+nq,by go_num,by omega,by omega,by rw[l.out];exact putRow_drewN _ _ _ _ _ _ _,by rw[<-Z.out,scanSorted_go ltInt g b k W (by rw[<-p.out,<-p.out];exact v)]⟩
         case measure=>simp[intOf];omega)
      | (have v:ltInt (G k) (G (k-1))=true:=by
          have h:(!ltInt (G k) (G (k-1)))=false:=by assumption
          simpa using h
         have I:Hid (scanSorted ltInt g b i=k):=by
          show scanSorted ltInt g b i=k;rw[<-Z.out,scanSorted_stop ltInt g b k (Or.inr (by rw[<-p.out,<-p.out];exact v))]
         first
          | (at_ret
             have S:Sort.partialInsertionSort ltInt d a b=(g,false):=by
              unfold Sort.partialInsertionSort;rw[<-D.out,pi_short ltInt a b s i g E (by rw[I.out];omega) (by omega)]
             rw[S];go_ret
             exact⟨rfl,m+nq,by rw[l.out];exact putRow_drewN _ _ _ _ _ _ _⟩)
          | (at_region 11
             have af:¬b-a<50:=by omega
             go_region;have ab:((wr.drewN (nq+1)).setCell ⟨c,off+k,none⟩ (.int .i32 (G (k-1)))).setCell ⟨c,off+(k-1),none⟩ (.int .i32 (G k))=putRow (Value.int .i32) (Sort.ahead w (m+(nq+1))) c off (swp g k (k-1)):=by
              rw[l.out,p.out,p.out];exact swap_worldA _ w m (nq+1) c off g k (k-1) (by omega) (by omega)
             have N:(swp g k (k-1)).size=d.size:=by rw[size_swp];exact X
             go_wp2
             all_goals first
              | (at_loop
                 have T:k-a≥2:=by omega
                 go_loopw [9] (fun A y=>∃(j P:Nat) (o:Array Int),A=.int .i64 j∧j<=k-1∧o.size=d.size∧y=putRow (Value.int .i32) (Sort.ahead w P) c off o∧
                  shiftDown ltInt j o=shiftDown ltInt (k-1) (swp g k (k-1))) (fun A _=>(intOf A).toNat)
                 case atStart=>exact⟨k-1,_,(swp g k (k-1)),by congr 1;omega,gw _,N,rfl,rfl⟩
                 case round=>
                  obtain⟨j,P,o,rfl,ag,C,x,Q⟩:=hrel;obtain⟨G,z⟩:∃G:Nat->Int,∀t,G t=o[t]!:=⟨fun t=>o[t]!,fun _=>rfl⟩;have L:∀t,t<d.size->wr.cell? ⟨c,off+t,none⟩=some (.int .i32 (G t)):=fun t B=>by
                   rw[x,z];exact cell?_putRow _ _ _ _ d o (holds_ahead _ _ _ _ _ _ J.out) C t (by omega)
                  have K:∀t,t<d.size->wr.frozen? ⟨c,off+t,none⟩=false:=fun t B=>by
                   rw[x,frozen?_putRow];exact((holds_ahead _ _ P _ _ _ J.out) t B).2
                  have l:Hid (wr=putRow (Value.int .i32) (Sort.ahead w P) c off o):=x;have p:Hid (∀t,G t=o[t]!):=z;have O:Hid (shiftDown ltInt j o=shiftDown ltInt (k-1) (swp g k (k-1))):=Q;clear x z Q ab;go_wp2
                  all_goals first
                   | (at_region 16
                      go_quiet (first|(go_at_call 141;refine ju (aK _ _ _)));go_wp2
                      all_goals first
                       | (at_region 17
                          have v:ltInt (G j) (G (j-1))=true:=by
                           have h:(!ltInt (G j) (G (j-1)))=false:=by assumption
                           simpa using h
                          go_region
                          all_goals go_wp2
                          go_roundw
                          case rel=>
                           refine⟨j-1,P+(nq+1),swp o j (j-1),by congr 1;omega,by omega,by rw[size_swp];exact C,?_,?_⟩
                           ·rw[l.out,p.out,p.out];exact swap_worldA _ w P (nq+1) c off o j (j-1) (by omega) (by omega)
                           ·rw[<-O.out,shiftDown_go ltInt j o (by omega) (by rw[<-p.out,<-p.out];exact v)]
                          case measure=>simp[intOf];omega)
                       | (
                          have v:ltInt (G j) (G (j-1))=false:=by
                           have h:(!ltInt (G j) (G (j-1)))=true:=by assumption
                           simpa using h
                          have F:Hid (fixDown ltInt a k (swp g k (k-1))=o):=by
                           show fixDown ltInt a k (swp g k (k-1))=o;unfold fixDown;rw[if_pos T,<-O.out,shiftDown_stop ltInt j o (Or.inr (by rw[<-p.out,<-p.out];exact v))]
                          first
                           | (at_end
                              go_roundw
                              case rel=>
                               refine⟨k,s+1,_,o,rfl,by go_num,by omega,by omega,by omega,C,(by first|rfl|exact l.out|(rw[l.out];exact putRow_drewN _ _ _ _ _ _ _)),?_⟩;rw[<-D.out,pi_go ltInt a b s i k g E I.out (by omega) (by omega),F.out,show fixUp ltInt b k o=o from by unfold fixUp;rw[if_neg (by omega)]]
                              case measure=>simp[intOf];omega)
                           | (at_loop
                              go_loopw [10] (fun A y=>∃(j u:Nat) (f:Array Int),A=.int .i64 j∧k+1<=j∧j<=b∧f.size=d.size∧y=putRow (Value.int .i32) (Sort.ahead w u) c off f∧
                               shiftUp ltInt b j f=shiftUp ltInt b (k+1) o) (fun A _=>b-(intOf A).toNat)
                              case atStart=>exact⟨k+1,_,o,by go_num,gw _,by omega,C,(by first|rfl|exact l.out|(rw[l.out];exact putRow_drewN _ _ _ _ _ _ _)),rfl⟩
                              case round=>
                               obtain⟨j,u,f,rfl,U,V,r,q,M⟩:=hrel;obtain⟨G,z⟩:∃G:Nat->Int,∀t,G t=f[t]!:=⟨fun t=>f[t]!,fun _=>rfl⟩;have L:∀t,t<d.size->wr.cell? ⟨c,off+t,none⟩=some (.int .i32 (G t)):=fun t B=>by
                                rw[q,z];exact cell?_putRow _ _ _ _ d f (holds_ahead _ _ _ _ _ _ J.out) r t (by omega)
                               have K:∀t,t<d.size->wr.frozen? ⟨c,off+t,none⟩=false:=fun t B=>by
                                rw[q,frozen?_putRow];exact((holds_ahead _ _ u _ _ _ J.out) t B).2
                               have l:Hid (wr=putRow (Value.int .i32) (Sort.ahead w u) c off f):=q;have p:Hid (∀t,G t=f[t]!):=z;have H:Hid (shiftUp ltInt b j f=shiftUp ltInt b (k+1) o):=M;clear q z M;go_wp2
                               all_goals first
                                | (at_region 22
                                   go_quiet (first|(go_at_call 141;refine ju (aK _ _ _)));go_wp2
                                   all_goals first
                                    | (at_region 23
                                       have v:ltInt (G j) (G (j-1))=true:=by
                                        have h:(!ltInt (G j) (G (j-1)))=false:=by assumption
                                        simpa using h
                                       go_region
                                       all_goals go_wp2
                                       go_roundw
                                       case rel=>
                                        refine⟨j+1,u+(nq+1),swp f j (j-1),by go_num,by omega,by omega,by rw[size_swp];exact r,?_,?_⟩
                                        ·rw[l.out,p.out,p.out];exact swap_worldA _ w u (nq+1) c off f j (j-1) (by omega) (by omega)
                                        ·rw[<-H.out,shiftUp_go ltInt b j f (by omega) (by rw[<-p.out,<-p.out];exact v)]
                                       case measure=>simp[intOf];omega)
                                    | (at_end
                                       have v:ltInt (G j) (G (j-1))=false:=by
                                        have h:(!ltInt (G j) (G (j-1)))=true:=by assumption
                                        simpa using h
                                       go_roundw
                                       case rel=>
                                        refine⟨k,s+1,_,f,rfl,by go_num,by omega,by omega,by omega,r,(by first|rfl|exact l.out|(rw[l.out];exact putRow_drewN _ _ _ _ _ _ _)),?_⟩;rw[<-D.out,pi_go ltInt a b s i k g E I.out (by omega) (by omega),F.out,show fixUp ltInt b k o=f from by unfold fixUp;rw[if_pos (by omega),<-H.out,shiftUp_stop ltInt b j f (Or.inr (by rw[<-p.out,<-p.out];exact v))]]
                                       case measure=>simp[intOf];omega))
                                | (at_end
                                   go_roundw
                                   case rel=>
                                    refine⟨k,s+1,_,f,rfl,by go_num,by omega,by omega,by omega,r,(by first|rfl|exact l.out|(rw[l.out];exact putRow_drewN _ _ _ _ _ _ _)),?_⟩;rw[<-D.out,pi_go ltInt a b s i k g E I.out (by omega) (by omega),F.out,show fixUp ltInt b k o=f from by unfold fixUp;rw[if_pos (by omega),<-H.out,shiftUp_stop ltInt b j f (Or.inl (by omega))]]
                                   case measure=>simp[intOf];omega))))
                   | (
                      have F:Hid (fixDown ltInt a k (swp g k (k-1))=o):=by
                       show fixDown ltInt a k (swp g k (k-1))=o;unfold fixDown;rw[if_pos T,<-O.out,shiftDown_stop ltInt j o (Or.inl (by omega))]
                      first
                       | (at_end
                          go_roundw
                          case rel=>
                           refine⟨k,s+1,_,o,rfl,by go_num,by omega,by omega,by omega,C,(by first|rfl|exact l.out|(rw[l.out];exact putRow_drewN _ _ _ _ _ _ _)),?_⟩;rw[<-D.out,pi_go ltInt a b s i k g E I.out (by omega) (by omega),F.out,show fixUp ltInt b k o=o from by unfold fixUp;rw[if_neg (by omega)]]
                          case measure=>simp[intOf];omega)
                       | (at_loop
                          go_loopw [10] (fun A y=>∃(j u:Nat) (f:Array Int),A=.int .i64 j∧k+1<=j∧j<=b∧f.size=d.size∧y=putRow (Value.int .i32) (Sort.ahead w u) c off f∧
                           shiftUp ltInt b j f=shiftUp ltInt b (k+1) o) (fun A _=>b-(intOf A).toNat)
                          case atStart=>exact⟨k+1,_,o,by go_num,gw _,by omega,C,(by first|rfl|exact l.out|(rw[l.out];exact putRow_drewN _ _ _ _ _ _ _)),rfl⟩
                          case round=>
                           obtain⟨j,u,f,rfl,U,V,r,q,M⟩:=hrel;obtain⟨G,z⟩:∃G:Nat->Int,∀t,G t=f[t]!:=⟨fun t=>f[t]!,fun _=>rfl⟩;have L:∀t,t<d.size->wr.cell? ⟨c,off+t,none⟩=some (.int .i32 (G t)):=fun t B=>by
                            rw[q,z];exact cell?_putRow _ _ _ _ d f (holds_ahead _ _ _ _ _ _ J.out) r t (by omega)
                           have K:∀t,t<d.size->wr.frozen? ⟨c,off+t,none⟩=false:=fun t B=>by
                            rw[q,frozen?_putRow];exact((holds_ahead _ _ u _ _ _ J.out) t B).2
                           have l:Hid (wr=putRow (Value.int .i32) (Sort.ahead w u) c off f):=q;have p:Hid (∀t,G t=f[t]!):=z;have H:Hid (shiftUp ltInt b j f=shiftUp ltInt b (k+1) o):=M;clear q z M;go_wp2
                           all_goals first
                            | (at_region 22
                               go_quiet (first|(go_at_call 141;refine ju (aK _ _ _)));go_wp2
                               all_goals first
                                | (at_region 23
                                   have v:ltInt (G j) (G (j-1))=true:=by
                                    have h:(!ltInt (G j) (G (j-1)))=false:=by assumption
                                    simpa using h
                                   go_region
                                   all_goals go_wp2
                                   go_roundw
                                   case rel=>
                                    refine⟨j+1,u+(nq+1),swp f j (j-1),by go_num,by omega,by omega,by rw[size_swp];exact r,?_,?_⟩
                                    ·rw[l.out,p.out,p.out];exact swap_worldA _ w u (nq+1) c off f j (j-1) (by omega) (by omega)
                                    ·rw[<-H.out,shiftUp_go ltInt b j f (by omega) (by rw[<-p.out,<-p.out];exact v)]
                                   case measure=>simp[intOf];omega)
                                | (at_end
                                   have v:ltInt (G j) (G (j-1))=false:=by
                                    have h:(!ltInt (G j) (G (j-1)))=true:=by assumption
                                    simpa using h
                                   go_roundw
                                   case rel=>
                                    refine⟨k,s+1,_,f,rfl,by go_num,by omega,by omega,by omega,r,(by first|rfl|exact l.out|(rw[l.out];exact putRow_drewN _ _ _ _ _ _ _)),?_⟩;rw[<-D.out,pi_go ltInt a b s i k g E I.out (by omega) (by omega),F.out,show fixUp ltInt b k o=f from by unfold fixUp;rw[if_pos (by omega),<-H.out,shiftUp_stop ltInt b j f (Or.inr (by rw[<-p.out,<-p.out];exact v))]]
                                   case measure=>simp[intOf];omega))
                            | (at_end
                               go_roundw
                               case rel=>
                                refine⟨k,s+1,_,f,rfl,by go_num,by omega,by omega,by omega,r,(by first|rfl|exact l.out|(rw[l.out];exact putRow_drewN _ _ _ _ _ _ _)),?_⟩;rw[<-D.out,pi_go ltInt a b s i k g E I.out (by omega) (by omega),F.out,show fixUp ltInt b k o=f from by unfold fixUp;rw[if_pos (by omega),<-H.out,shiftUp_stop ltInt b j f (Or.inl (by omega))]]
                               case measure=>simp[intOf];omega))))
              | (
                 have F:Hid (fixDown ltInt a k (swp g k (k-1))=(swp g k (k-1))):=by
                  show fixDown ltInt a k (swp g k (k-1))=(swp g k (k-1));unfold fixDown;rw[if_neg (by omega)]
                 first
                  | (at_end
                     go_roundw
                     case rel=>
                      refine⟨k,s+1,_,(swp g k (k-1)),rfl,by go_num,by omega,by omega,by omega,N,(by first|rfl|exact l.out|(rw[l.out];exact putRow_drewN _ _ _ _ _ _ _)),?_⟩;rw[<-D.out,pi_go ltInt a b s i k g E I.out (by omega) (by omega),F.out,show fixUp ltInt b k (swp g k (k-1))=(swp g k (k-1)) from by unfold fixUp;rw[if_neg (by omega)]]
                     case measure=>simp[intOf];omega)
                  | (at_loop
                     go_loopw [10] (fun A y=>∃(j u:Nat) (f:Array Int),A=.int .i64 j∧k+1<=j∧j<=b∧f.size=d.size∧y=putRow (Value.int .i32) (Sort.ahead w u) c off f∧
                      shiftUp ltInt b j f=shiftUp ltInt b (k+1) (swp g k (k-1))) (fun A _=>b-(intOf A).toNat)
                     case atStart=>exact⟨k+1,_,(swp g k (k-1)),by go_num,gw _,by omega,N,(by first|rfl|exact l.out|(rw[l.out];exact putRow_drewN _ _ _ _ _ _ _)),rfl⟩
                     case round=>
                      obtain⟨j,u,f,rfl,U,V,r,q,M⟩:=hrel;obtain⟨G,z⟩:∃G:Nat->Int,∀t,G t=f[t]!:=⟨fun t=>f[t]!,fun _=>rfl⟩;have L:∀t,t<d.size->wr.cell? ⟨c,off+t,none⟩=some (.int .i32 (G t)):=fun t B=>by
                       rw[q,z];exact cell?_putRow _ _ _ _ d f (holds_ahead _ _ _ _ _ _ J.out) r t (by omega)
                      have K:∀t,t<d.size->wr.frozen? ⟨c,off+t,none⟩=false:=fun t B=>by
                       rw[q,frozen?_putRow];exact((holds_ahead _ _ u _ _ _ J.out) t B).2
                      have l:Hid (wr=putRow (Value.int .i32) (Sort.ahead w u) c off f):=q;have p:Hid (∀t,G t=f[t]!):=z;have H:Hid (shiftUp ltInt b j f=shiftUp ltInt b (k+1) (swp g k (k-1))):=M;clear q z M;go_wp2
                      all_goals first
                       | (at_region 22
                          go_quiet (first|(go_at_call 141;refine ju (aK _ _ _)));go_wp2
                          all_goals first
                           | (at_region 23
                              have v:ltInt (G j) (G (j-1))=true:=by
                               have h:(!ltInt (G j) (G (j-1)))=false:=by assumption
                               simpa using h
                              go_region
                              all_goals go_wp2
                              go_roundw
                              case rel=>
                               refine⟨j+1,u+(nq+1),swp f j (j-1),by go_num,by omega,by omega,by rw[size_swp];exact r,?_,?_⟩
                               ·rw[l.out,p.out,p.out];exact swap_worldA _ w u (nq+1) c off f j (j-1) (by omega) (by omega)
                               ·rw[<-H.out,shiftUp_go ltInt b j f (by omega) (by rw[<-p.out,<-p.out];exact v)]
                              case measure=>simp[intOf];omega)
                           | (at_end
                              have v:ltInt (G j) (G (j-1))=false:=by
                               have h:(!ltInt (G j) (G (j-1)))=true:=by assumption
                               simpa using h
                              go_roundw
                              case rel=>
                               refine⟨k,s+1,_,f,rfl,by go_num,by omega,by omega,by omega,r,(by first|rfl|exact l.out|(rw[l.out];exact putRow_drewN _ _ _ _ _ _ _)),?_⟩;rw[<-D.out,pi_go ltInt a b s i k g E I.out (by omega) (by omega),F.out,show fixUp ltInt b k (swp g k (k-1))=f from by unfold fixUp;rw[if_pos (by omega),<-H.out,shiftUp_stop ltInt b j f (Or.inr (by rw[<-p.out,<-p.out];exact v))]]
                              case measure=>simp[intOf];omega))
                       | (at_end
                          go_roundw
                          case rel=>
                           refine⟨k,s+1,_,f,rfl,by go_num,by omega,by omega,by omega,r,(by first|rfl|exact l.out|(rw[l.out];exact putRow_drewN _ _ _ _ _ _ _)),?_⟩;rw[<-D.out,pi_go ltInt a b s i k g E I.out (by omega) (by omega),F.out,show fixUp ltInt b k (swp g k (k-1))=f from by unfold fixUp;rw[if_pos (by omega),<-H.out,shiftUp_stop ltInt b j f (Or.inl (by omega))]]
                          case measure=>simp[intOf];omega)))))
    ·
     go_quiet (first|(go_at_call 141;refine ju (aK _ _ _)));go_wp2;obtain rfl:k=b:=by omega
     have S:Sort.partialInsertionSort ltInt d a k=(g,true):=by
      unfold Sort.partialInsertionSort;rw[<-D.out,pi_true ltInt a k s i g E (by rw[<-Z.out,scanSorted_stop ltInt g k k (Or.inl (by omega))])]
     rw[S];go_ret;exact⟨rfl,m+nq,by rw[l.out];exact putRow_drewN _ _ _ _ _ _ _⟩
  ·
   obtain rfl:s=5:=by omega
   have S:Sort.partialInsertionSort ltInt d a b=(g,false):=by
    unfold Sort.partialInsertionSort;rw[<-D.out,pi_end]
   rw[S];go_ret;exact⟨rfl,n,rfl⟩
end Go.Proofs.YtmnimbnojdndmaaGreatDoor
