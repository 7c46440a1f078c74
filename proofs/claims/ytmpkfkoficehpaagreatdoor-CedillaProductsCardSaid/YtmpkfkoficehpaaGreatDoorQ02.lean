/- CedillaProducts: where a text may be cut apart, it has as many texts that are alike as its two parts multiplied; no condition. -/
import Derived.Test.YtmpkfkoficehpaaGreatDoorQ01
import Derived.Shelf.Strings.Trim
import Derived.Shelf.Small.Utf8
import Derived.Shelf.Small.Bits
import Derived.Shelf.Small.Strs
import Derived.Shelf.Small.Wraps
import Derived.Shelf.Utf8.RuneCount
import Derived.Shelf.Strconv.Atoi
import Derived.Shelf.Strconv.Itoa0
import Derived.Shelf.Strconv.Itoa1
import Derived.Shelf.LaysM
import Derived.Shelf.Strconv.Itoa2
import Derived.Shelf.Strconv.Itoa3
import Derived.Shelf.Strings.Search1
import Derived.Shelf.Strings.Search2
import Derived.Shelf.Strings.Search3
import Derived.Shelf.Strings.Cut
import Derived.Shelf.Strings.Count
import Derived.Shelf.Strings.Shaped
import Derived.Shelf.Strings.Prefix
import Derived.Shelf.Strings.Split
import Derived.Shelf.Strings.SplitShaped
import Derived.Shelf.Unicode.Decode
import Derived.Shelf.Strings.Runes
import Derived.Shelf.Strings.RuneCount
import Derived.Shelf.Strings.AsciiSet
import Derived.Shelf.Strings.Explode
import Derived.Shelf.Unicode.DecodeSlow
import Derived.Shelf.Unicode.DecodeAny
import Derived.Shelf.Unicode.DecodeLast
import Derived.Ground.Names2Prog
import Derived.Shelf.Slices.Clone
import Derived.Shelf.Slices.SearchI
import Derived.Ground.SlgnProg
import Derived.Shelf.SlicesE.Equal
import Derived.Shelf.SlicesE.Clone
import Derived.Test.YtmpkfkoficehpaaGreatDoorProg
import Derived.Sort.WalkA6
import Derived.Sort.WalkB12
set_option maxRecDepth 100000
set_option maxHeartbeats 6400000
namespace Go.Proofs
section
open Go.Shelf
def Tryz.FC:Go.Shelf.Ren:=⟨fun|160=>118|232=>154|231=>153|227=>155|234=>157|233=>156|236=>159|235=>158|228=>189|271=>192|151=>191|197=>190|120=>219|152=>218|260=>217|137=>146|119=>237|224=>215|225=>214|217=>181|266=>206|n=>n,fun|9=>9|4=>4|3=>3|5=>5|117=>264|116=>263|0=>0|124=>267|21=>21|105=>288|46=>71|119=>325|139=>328|138=>327|n=>n,fun|3=>2|4=>3|n=>n⟩
theorem Tryz.Uq:Go.Proofs.Lays.n160 Tryz.prog Tryz.FC:={
 mixed:=by kernel_rfl
 f119:=Tryz.func237.trans (congrArg some (by kernel_rfl))
 f120:=Tryz.func219.trans (congrArg some (by kernel_rfl))
 f137:=Tryz.func146.trans (congrArg some (by kernel_rfl))
 f151:=Tryz.func191.trans (congrArg some (by kernel_rfl))
 f152:=Tryz.func218.trans (congrArg some (by kernel_rfl))
 f160:=Tryz.func118.trans (congrArg some (by kernel_rfl))
 f197:=Tryz.func190.trans (congrArg some (by kernel_rfl))
 f217:=Tryz.func181.trans (congrArg some (by kernel_rfl))
 f224:=Tryz.func215.trans (congrArg some (by kernel_rfl))
 f225:=Tryz.func214.trans (congrArg some (by kernel_rfl))
 f227:=Tryz.func155.trans (congrArg some (by kernel_rfl))
 f228:=Tryz.func189.trans (congrArg some (by kernel_rfl))
 f231:=Tryz.func153.trans (congrArg some (by kernel_rfl))
 f232:=Tryz.func154.trans (congrArg some (by kernel_rfl))
 f233:=Tryz.func156.trans (congrArg some (by kernel_rfl))
 f234:=Tryz.func157.trans (congrArg some (by kernel_rfl))
 f235:=Tryz.func158.trans (congrArg some (by kernel_rfl))
 f236:=Tryz.func159.trans (congrArg some (by kernel_rfl))
 f260:=Tryz.func217.trans (congrArg some (by kernel_rfl))
 f266:=Tryz.func206.trans (congrArg some (by kernel_rfl))
 f271:=Tryz.func192.trans (congrArg some (by kernel_rfl))
 t0:=Tryz.underlying0
 a0:=Tryz.isAgg0
 z0:=Tryz.sizeOf0
 v0:=Tryz.zeroValue0
 t3:=Tryz.underlying3
 a3:=Tryz.isAgg3
 z3:=Tryz.sizeOf3
 v3:=Tryz.zeroValue3
 t4:=Tryz.underlying4
 a4:=Tryz.isAgg4
 z4:=Tryz.sizeOf4
 v4:=Tryz.zeroValue4
 t5:=Tryz.underlying5
 a5:=Tryz.isAgg5
 z5:=Tryz.sizeOf5
 v5:=Tryz.zeroValue5
 t9:=Tryz.underlying9
 a9:=Tryz.isAgg9
 z9:=Tryz.sizeOf9
 v9:=Tryz.zeroValue9
 t21:=Tryz.underlying21
 a21:=Tryz.isAgg21
 z21:=Tryz.sizeOf21
 v21:=Tryz.zeroValue21
 t46:=Tryz.underlying71
 a46:=Tryz.isAgg71
 z46:=Tryz.sizeOf71
 v46:=Tryz.zeroValue71
 t105:=Tryz.underlying288
 a105:=Tryz.isAgg288
 z105:=Tryz.sizeOf288
 v105:=Tryz.zeroValue288
 t116:=Tryz.underlying263
 a116:=Tryz.isAgg263
 z116:=Tryz.sizeOf263
 t117:=Tryz.underlying264
 a117:=Tryz.isAgg264
 z117:=Tryz.sizeOf264
 v117:=Tryz.zeroValue264
 t119:=Tryz.underlying325
 a119:=Tryz.isAgg325
 z119:=Tryz.sizeOf325
 t124:=Tryz.underlying267
 a124:=Tryz.isAgg267
 z124:=Tryz.sizeOf267
 v124:=Tryz.zeroValue267
 t138:=Tryz.underlying327
 a138:=Tryz.isAgg327
 z138:=Tryz.sizeOf327
 v138:=Tryz.zeroValue327
 t139:=Tryz.underlying328
 a139:=Tryz.isAgg328
 z139:=Tryz.sizeOf328
 v139:=Tryz.zeroValue328
 g3:=by kernel_rfl
 g4:=by kernel_rfl }
open Go.RowKit in
theorem Tryz.strings_Trim_one (s:ByteArray) (c:UInt8) (hc:c.toNat<128) (w:World) (hs:s.size≤9223372036854775807) :
 Calls Tryz.prog 118 #[.string s,.string ⟨#[c]⟩] w fun e w'=>e=.returned (.string ⟨(Lib.trimB s.data.toList c).toArray⟩)∧(w'=w∨w'=w.drew):=Any.strings_Trim_one Tryz.Uq s c hc w hs
def Tryz.FH:Go.Shelf.Ren:=⟨fun|125=>162|128=>201|129=>202|n=>n,fun|46=>71|3=>3|51=>68|53=>69|4=>4|5=>5|9=>9|n=>n,fun|n=>n⟩
theorem Tryz.Ur:Go.Proofs.Lays.n125 Tryz.prog Tryz.FH:={
 mixed:=by kernel_rfl
 f125:=Tryz.func162.trans (congrArg some (by kernel_rfl))
 f128:=Tryz.func201.trans (congrArg some (by kernel_rfl))
 f129:=Tryz.func202.trans (congrArg some (by kernel_rfl))
 t3:=Tryz.underlying3
 a3:=Tryz.isAgg3
 z3:=Tryz.sizeOf3
 v3:=Tryz.zeroValue3
 t4:=Tryz.underlying4
 a4:=Tryz.isAgg4
 z4:=Tryz.sizeOf4
 v4:=Tryz.zeroValue4
 t5:=Tryz.underlying5
 a5:=Tryz.isAgg5
 z5:=Tryz.sizeOf5
 v5:=Tryz.zeroValue5
 t9:=Tryz.underlying9
 a9:=Tryz.isAgg9
 z9:=Tryz.sizeOf9
 v9:=Tryz.zeroValue9
 t46:=Tryz.underlying71
 a46:=Tryz.isAgg71
 z46:=Tryz.sizeOf71
 v46:=Tryz.zeroValue71
 t51:=Tryz.underlying68
 a51:=Tryz.isAgg68
 z51:=Tryz.sizeOf68
 v51:=Tryz.zeroValue68
 t53:=Tryz.underlying69
 a53:=Tryz.isAgg69
 z53:=Tryz.sizeOf69
 v53:=Tryz.zeroValue69 }
theorem Tryz.bits_Len (x:Int) (w:World) (h0:0≤x) (h1:x≤18446744073709551615) :
 Calls Tryz.prog 162 #[.int .u64 x] w fun e w'=>e=.returned (.int .i64 (Lib.bitLen x.toNat))∧w'=w:=Any.bits_Len Tryz.Ur x w h0 h1
def Tryz.FJ:Go.Shelf.Ren:=⟨fun|137=>146|217=>181|266=>206|n=>n,fun|9=>9|5=>5|3=>3|n=>n,fun|n=>n⟩
theorem Tryz.Us:Go.Proofs.Lays.n137 Tryz.prog Tryz.FJ:={
 mixed:=by kernel_rfl
 f137:=Tryz.func146.trans (congrArg some (by kernel_rfl))
 f217:=Tryz.func181.trans (congrArg some (by kernel_rfl))
 f266:=Tryz.func206.trans (congrArg some (by kernel_rfl))
 t3:=Tryz.underlying3
 a3:=Tryz.isAgg3
 z3:=Tryz.sizeOf3
 v3:=Tryz.zeroValue3
 t5:=Tryz.underlying5
 a5:=Tryz.isAgg5
 z5:=Tryz.sizeOf5
 v5:=Tryz.zeroValue5
 t9:=Tryz.underlying9
 a9:=Tryz.isAgg9
 z9:=Tryz.sizeOf9
 v9:=Tryz.zeroValue9 }
open Go.RowKit in
theorem Tryz.strings_IndexByte (s:ByteArray) (c:Int) (w:World) :
 Calls Tryz.prog 146 #[.string s,.int .u8 c] w fun e w'=>e=.returned (.int .i64 (Lib.indexByte s.data.toList c.toNat.toUInt8))∧w'=w:=Any.strings_IndexByte Tryz.Us s c w
def Tryz.FK:Go.Shelf.Ren:=⟨fun|104=>151|211=>187|207=>182|n=>n,fun|9=>9|4=>4|24=>259|3=>3|n=>n,fun|n=>n⟩
theorem Tryz.Ut:Go.Proofs.Lays.n104 Tryz.prog Tryz.FK:={
 mixed:=by kernel_rfl
 f104:=Tryz.func151.trans (congrArg some (by kernel_rfl))
 f207:=Tryz.func182.trans (congrArg some (by kernel_rfl))
 f211:=Tryz.func187.trans (congrArg some (by kernel_rfl))
 t3:=Tryz.underlying3
 a3:=Tryz.isAgg3
 z3:=Tryz.sizeOf3
 v3:=Tryz.zeroValue3
 t4:=Tryz.underlying4
 a4:=Tryz.isAgg4
 z4:=Tryz.sizeOf4
 v4:=Tryz.zeroValue4
 t9:=Tryz.underlying9
 a9:=Tryz.isAgg9
 z9:=Tryz.sizeOf9
 v9:=Tryz.zeroValue9
 t24:=Tryz.underlying259
 a24:=Tryz.isAgg259
 z24:=Tryz.sizeOf259
 v24:=Tryz.zeroValue259 }
open Go.RowKit in
theorem Tryz.strings_CutSuffix (s p:ByteArray) (w:World) (hs:s.size≤9223372036854775807) :
 Calls Tryz.prog 151 #[.string s,.string p] w fun e w'=>e=.returned (.tuple #[.string ⟨(Lib.trimSuffix s.data.toList p.data.toList).toArray⟩,.bool (Lib.hasSuffix s.data.toList p.data.toList)])∧w'=w:=Any.strings_CutSuffix Tryz.Ut s p w hs
def Tryz.FL:Go.Shelf.Ren:=⟨fun|172=>184|244=>210|245=>211|247=>229|279=>230|280=>231|281=>232|282=>233|287=>240|316=>241|171=>185|205=>242|321=>249|322=>250|243=>212|246=>234|283=>243|284=>244|285=>245|286=>246|129=>202|317=>251|318=>252|319=>253|320=>254|337=>255|338=>256|n=>n,fun|9=>9|3=>3|75=>77|76=>284|4=>4|5=>5|167=>315|37=>105|0=>0|85=>316|2=>2|168=>318|53=>69|175=>332|46=>71|210=>335|127=>341|145=>344|143=>342|21=>21|171=>336|173=>338|212=>346|51=>68|20=>20|213=>347|232=>348|233=>349|80=>350|n=>n,fun|15=>4|16=>5|17=>6|18=>7|19=>8|n=>n⟩
theorem Tryz.Uu:Go.Proofs.Lays.n172 Tryz.prog Tryz.FL:={
 mixed:=by kernel_rfl
 f129:=Tryz.func202.trans (congrArg some (by kernel_rfl))
 f171:=Tryz.func185.trans (congrArg some (by kernel_rfl))
 f172:=Tryz.func184.trans (congrArg some (by kernel_rfl))
 f205:=Tryz.func242.trans (congrArg some (by kernel_rfl))
 f243:=Tryz.func212.trans (congrArg some (by kernel_rfl))
 f244:=Tryz.func210.trans (congrArg some (by kernel_rfl))
 f245:=Tryz.func211.trans (congrArg some (by kernel_rfl))
 f246:=Tryz.func234.trans (congrArg some (by kernel_rfl))
 f247:=Tryz.func229.trans (congrArg some (by kernel_rfl))
 f279:=Tryz.func230.trans (congrArg some (by kernel_rfl))
 f280:=Tryz.func231.trans (congrArg some (by kernel_rfl))
 f281:=Tryz.func232.trans (congrArg some (by kernel_rfl))
 f282:=Tryz.func233.trans (congrArg some (by kernel_rfl))
 f283:=Tryz.func243.trans (congrArg some (by kernel_rfl))
 f284:=Tryz.func244.trans (congrArg some (by kernel_rfl))
 f285:=Tryz.func245.trans (congrArg some (by kernel_rfl))
 f286:=Tryz.func246.trans (congrArg some (by kernel_rfl))
 f287:=Tryz.func240.trans (congrArg some (by kernel_rfl))
 f316:=Tryz.func241.trans (congrArg some (by kernel_rfl))
 f317:=Tryz.func251.trans (congrArg some (by kernel_rfl))
 f318:=Tryz.func252.trans (congrArg some (by kernel_rfl))
 f319:=Tryz.func253.trans (congrArg some (by kernel_rfl))
 f320:=Tryz.func254.trans (congrArg some (by kernel_rfl))
 f321:=Tryz.func249.trans (congrArg some (by kernel_rfl))
 f322:=Tryz.func250.trans (congrArg some (by kernel_rfl))
 f337:=Tryz.func255.trans (congrArg some (by kernel_rfl))
 f338:=Tryz.func256.trans (congrArg some (by kernel_rfl))
 t0:=Tryz.underlying0
 a0:=Tryz.isAgg0
 z0:=Tryz.sizeOf0
 v0:=Tryz.zeroValue0
 t2:=Tryz.underlying2
 a2:=Tryz.isAgg2
 z2:=Tryz.sizeOf2
 v2:=Tryz.zeroValue2
 t3:=Tryz.underlying3
 a3:=Tryz.isAgg3
 z3:=Tryz.sizeOf3
 v3:=Tryz.zeroValue3
 t4:=Tryz.underlying4
 a4:=Tryz.isAgg4
 z4:=Tryz.sizeOf4
 v4:=Tryz.zeroValue4
 t5:=Tryz.underlying5
 a5:=Tryz.isAgg5
 z5:=Tryz.sizeOf5
 v5:=Tryz.zeroValue5
 t9:=Tryz.underlying9
 a9:=Tryz.isAgg9
 z9:=Tryz.sizeOf9
 v9:=Tryz.zeroValue9
 t20:=Tryz.underlying20
 a20:=Tryz.isAgg20
 z20:=Tryz.sizeOf20
 v20:=Tryz.zeroValue20
 t21:=Tryz.underlying21
 a21:=Tryz.isAgg21
 z21:=Tryz.sizeOf21
 v21:=Tryz.zeroValue21
 t37:=Tryz.underlying105
 a37:=Tryz.isAgg105
 z37:=Tryz.sizeOf105
 v37:=Tryz.zeroValue105
 t46:=Tryz.underlying71
 a46:=Tryz.isAgg71
 z46:=Tryz.sizeOf71
 v46:=Tryz.zeroValue71
 t51:=Tryz.underlying68
 a51:=Tryz.isAgg68
 z51:=Tryz.sizeOf68
 v51:=Tryz.zeroValue68
 t53:=Tryz.underlying69
 a53:=Tryz.isAgg69
 z53:=Tryz.sizeOf69
 v53:=Tryz.zeroValue69
 t75:=Tryz.underlying77
 a75:=Tryz.isAgg77
 z75:=Tryz.sizeOf77
 v75:=Tryz.zeroValue77
 t76:=Tryz.underlying284
 a76:=Tryz.isAgg284
 z76:=Tryz.sizeOf284
 v76:=Tryz.zeroValue284
 t85:=Tryz.underlying316
 a85:=Tryz.isAgg316
 z85:=Tryz.sizeOf316
 v85:=Tryz.zeroValue316
 t127:=Tryz.underlying341
 a127:=Tryz.isAgg341
 z127:=Tryz.sizeOf341
 v127:=Tryz.zeroValue341
 t143:=Tryz.underlying342
 a143:=Tryz.isAgg342
 z143:=Tryz.sizeOf342
 v143:=Tryz.zeroValue342
 t145:=Tryz.underlying344
 a145:=Tryz.isAgg344
 z145:=Tryz.sizeOf344
 v145:=Tryz.zeroValue344
 t167:=Tryz.underlying315
 a167:=Tryz.isAgg315
 z167:=Tryz.sizeOf315
 v167:=Tryz.zeroValue315
 t168:=Tryz.underlying318
 a168:=Tryz.isAgg318
 z168:=Tryz.sizeOf318
 v168:=Tryz.zeroValue318
 t171:=Tryz.underlying336
 a171:=Tryz.isAgg336
 z171:=Tryz.sizeOf336
 v171:=Tryz.zeroValue336
 t173:=Tryz.underlying338
 a173:=Tryz.isAgg338
 z173:=Tryz.sizeOf338
 v173:=Tryz.zeroValue338
 t175:=Tryz.underlying332
 a175:=Tryz.isAgg332
 z175:=Tryz.sizeOf332
 v175:=Tryz.zeroValue332
 t210:=Tryz.underlying335
 a210:=Tryz.isAgg335
 z210:=Tryz.sizeOf335
 v210:=Tryz.zeroValue335
 t212:=Tryz.underlying346
 a212:=Tryz.isAgg346
 z212:=Tryz.sizeOf346
 v212:=Tryz.zeroValue346
 t213:=Tryz.underlying347
 a213:=Tryz.isAgg347
 z213:=Tryz.sizeOf347
 t232:=Tryz.underlying348
 a232:=Tryz.isAgg348
 z232:=Tryz.sizeOf348
 v232:=Tryz.zeroValue348
 t233:=Tryz.underlying349
 a233:=Tryz.isAgg349
 z233:=Tryz.sizeOf349
 v233:=Tryz.zeroValue349
 g15:=by kernel_rfl
 g16:=by kernel_rfl
 g17:=by kernel_rfl
 g18:=by kernel_rfl
 g19:=by kernel_rfl }
open Go.RowKit in
theorem Tryz.strconv_Atoi (s:ByteArray) (n:Int) (hl:s.size≤18) (h:Lib.atoi s.data.toList=some n) (w:World) :
 Calls Tryz.prog 184 #[.string s] w fun e w'=>e=.returned (.tuple #[.int .i64 n,.nilIface])∧∃t,w'=Lib.bytesWorld w 5 t:=Any.strconv_Atoi Tryz.Uu s n hl h w
def Tryz.Dt:Go.Shelf.Ren:=⟨fun|171=>185|243=>212|246=>234|283=>243|284=>244|285=>245|286=>246|129=>202|317=>251|318=>252|319=>253|320=>254|337=>255|338=>256|n=>n,fun|3=>3|9=>9|2=>2|4=>4|171=>336|0=>0|53=>69|37=>105|5=>5|173=>338|212=>346|51=>68|20=>20|213=>347|46=>71|232=>348|233=>349|n=>n,fun|17=>6|18=>7|19=>8|n=>n⟩
theorem Tryz.Qu:Go.Proofs.LaysM.n171 Tryz.prog Tryz.Dt:={
 mixed:=by kernel_rfl
 f129:=Tryz.func202.trans (congrArg some (by kernel_rfl))
 f171:=Tryz.func185.trans (congrArg some (by kernel_rfl))
 f243:=Tryz.func212.trans (congrArg some (by kernel_rfl))
 f246:=Tryz.func234.trans (congrArg some (by kernel_rfl))
 f283:=Tryz.func243.trans (congrArg some (by kernel_rfl))
 f284:=Tryz.func244.trans (congrArg some (by kernel_rfl))
 f285:=Tryz.func245.trans (congrArg some (by kernel_rfl))
 f286:=Tryz.func246.trans (congrArg some (by kernel_rfl))
 f317:=Tryz.func251.trans (congrArg some (by kernel_rfl))
 f318:=Tryz.func252.trans (congrArg some (by kernel_rfl))
 f319:=Tryz.func253.trans (congrArg some (by kernel_rfl))
 f320:=Tryz.func254.trans (congrArg some (by kernel_rfl))
 f337:=Tryz.func255.trans (congrArg some (by kernel_rfl))
 f338:=Tryz.func256.trans (congrArg some (by kernel_rfl))
 t0:=Tryz.underlying0
 a0:=Tryz.isAgg0
 z0:=Tryz.sizeOf0
 v0:=Tryz.zeroValue0
 t2:=Tryz.underlying2
 a2:=Tryz.isAgg2
 z2:=Tryz.sizeOf2
 v2:=Tryz.zeroValue2
 t3:=Tryz.underlying3
 a3:=Tryz.isAgg3
 z3:=Tryz.sizeOf3
 v3:=Tryz.zeroValue3
 t4:=Tryz.underlying4
 a4:=Tryz.isAgg4
 z4:=Tryz.sizeOf4
 v4:=Tryz.zeroValue4
 t5:=Tryz.underlying5
 a5:=Tryz.isAgg5
 z5:=Tryz.sizeOf5
 v5:=Tryz.zeroValue5
 t9:=Tryz.underlying9
 a9:=Tryz.isAgg9
 z9:=Tryz.sizeOf9
 v9:=Tryz.zeroValue9
 t20:=Tryz.underlying20
 a20:=Tryz.isAgg20
 z20:=Tryz.sizeOf20
 v20:=Tryz.zeroValue20
 t37:=Tryz.underlying105
 a37:=Tryz.isAgg105
 z37:=Tryz.sizeOf105
 v37:=Tryz.zeroValue105
 t46:=Tryz.underlying71
 a46:=Tryz.isAgg71
 z46:=Tryz.sizeOf71
 v46:=Tryz.zeroValue71
 t51:=Tryz.underlying68
 a51:=Tryz.isAgg68
 z51:=Tryz.sizeOf68
 v51:=Tryz.zeroValue68
 t53:=Tryz.underlying69
 a53:=Tryz.isAgg69
 z53:=Tryz.sizeOf69
 v53:=Tryz.zeroValue69
 t171:=Tryz.underlying336
 a171:=Tryz.isAgg336
 z171:=Tryz.sizeOf336
 v171:=Tryz.zeroValue336
 t173:=Tryz.underlying338
 a173:=Tryz.isAgg338
 z173:=Tryz.sizeOf338
 v173:=Tryz.zeroValue338
 t212:=Tryz.underlying346
 a212:=Tryz.isAgg346
 z212:=Tryz.sizeOf346
 v212:=Tryz.zeroValue346
 t213:=Tryz.underlying347
 a213:=Tryz.isAgg347
 z213:=Tryz.sizeOf347
 t232:=Tryz.underlying348
 a232:=Tryz.isAgg348
 z232:=Tryz.sizeOf348
 v232:=Tryz.zeroValue348
 t233:=Tryz.underlying349
 a233:=Tryz.isAgg349
 z233:=Tryz.sizeOf349
 v233:=Tryz.zeroValue349
 g17:=by kernel_rfl
 g18:=by kernel_rfl
 g19:=by kernel_rfl
 i0:=by kernel_rfl
 i2:=by kernel_rfl
 i3:=by kernel_rfl
 i4:=by kernel_rfl
 i5:=by kernel_rfl
 i9:=by kernel_rfl
 i20:=by kernel_rfl
 i37:=by kernel_rfl
 i46:=by kernel_rfl
 i51:=by kernel_rfl
 i53:=by kernel_rfl
 i171:=by kernel_rfl
 i173:=by kernel_rfl
 i212:=by kernel_rfl
 i232:=by kernel_rfl
 i233:=by kernel_rfl
 m17:=by kernel_rfl
 m18:=by kernel_rfl
 m19:=by kernel_rfl }
open Go.RowKit Go.Sort Go.Lib in
theorem Tryz.strconv_Itoa (n:Int) (h0:-9223372036854775808≤n) (h1:n≤9223372036854775807) (w:World) (htab:Lib.TabIs Tryz.prog w "internal/strconv.uint64pow10" .u64 Lib.pow10Tab) :
 Calls Tryz.prog 185 #[.int .i64 n] w fun e w'=>e=.returned (.string ⟨(Lib.itoa n).toArray⟩)∧∃k os,w'=grow (w.drewN k) os:=Any.strconv_Itoa Tryz.Qu n h0 h1 w htab
def Tryz.FM:Go.Shelf.Ren:=⟨fun|143=>209|219=>188|217=>181|225=>214|224=>215|267=>216|266=>206|314=>236|n=>n,fun|9=>9|3=>3|4=>4|5=>5|46=>71|146=>323|51=>68|n=>n,fun|1=>1|n=>n⟩
theorem Tryz.Uv:Go.Proofs.Lays.n143 Tryz.prog Tryz.FM:={
 mixed:=by kernel_rfl
 f143:=Tryz.func209.trans (congrArg some (by kernel_rfl))
 f217:=Tryz.func181.trans (congrArg some (by kernel_rfl))
 f219:=Tryz.func188.trans (congrArg some (by kernel_rfl))
 f224:=Tryz.func215.trans (congrArg some (by kernel_rfl))
 f225:=Tryz.func214.trans (congrArg some (by kernel_rfl))
 f266:=Tryz.func206.trans (congrArg some (by kernel_rfl))
 f267:=Tryz.func216.trans (congrArg some (by kernel_rfl))
 f314:=Tryz.func236.trans (congrArg some (by kernel_rfl))
 t3:=Tryz.underlying3
 a3:=Tryz.isAgg3
 z3:=Tryz.sizeOf3
 v3:=Tryz.zeroValue3
 t4:=Tryz.underlying4
 a4:=Tryz.isAgg4
 z4:=Tryz.sizeOf4
 v4:=Tryz.zeroValue4
 t5:=Tryz.underlying5
 a5:=Tryz.isAgg5
 z5:=Tryz.sizeOf5
 v5:=Tryz.zeroValue5
 t9:=Tryz.underlying9
 a9:=Tryz.isAgg9
 z9:=Tryz.sizeOf9
 v9:=Tryz.zeroValue9
 t46:=Tryz.underlying71
 a46:=Tryz.isAgg71
 z46:=Tryz.sizeOf71
 v46:=Tryz.zeroValue71
 t51:=Tryz.underlying68
 a51:=Tryz.isAgg68
 z51:=Tryz.sizeOf68
 v51:=Tryz.zeroValue68
 t146:=Tryz.underlying323
 a146:=Tryz.isAgg323
 z146:=Tryz.sizeOf323
 v146:=Tryz.zeroValue323
 g1:=by kernel_rfl }
open Go.RowKit Go.Lib in
theorem Tryz.strings_Index_one (s:ByteArray) (c:UInt8) (w:World) :
 Calls Tryz.prog 209 #[.string s,.string ⟨#[c]⟩] w fun e w'=>e=.returned (.int .i64 (Lib.indexByte s.data.toList c))∧w'=w:=Any.strings_Index_one Tryz.Uv s c w
def Tryz.FN:Go.Shelf.Ren:=⟨fun|145=>117|220=>152|219=>188|217=>181|225=>214|224=>215|267=>216|266=>206|314=>236|n=>n,fun|9=>9|4=>4|59=>227|3=>3|5=>5|46=>71|146=>323|51=>68|n=>n,fun|1=>1|n=>n⟩
theorem Tryz.Uw:Go.Proofs.Lays.n145 Tryz.prog Tryz.FN:={
 mixed:=by kernel_rfl
 f145:=Tryz.func117.trans (congrArg some (by kernel_rfl))
 f217:=Tryz.func181.trans (congrArg some (by kernel_rfl))
 f219:=Tryz.func188.trans (congrArg some (by kernel_rfl))
 f220:=Tryz.func152.trans (congrArg some (by kernel_rfl))
 f224:=Tryz.func215.trans (congrArg some (by kernel_rfl))
 f225:=Tryz.func214.trans (congrArg some (by kernel_rfl))
 f266:=Tryz.func206.trans (congrArg some (by kernel_rfl))
 f267:=Tryz.func216.trans (congrArg some (by kernel_rfl))
 f314:=Tryz.func236.trans (congrArg some (by kernel_rfl))
 t3:=Tryz.underlying3
 a3:=Tryz.isAgg3
 z3:=Tryz.sizeOf3
 v3:=Tryz.zeroValue3
 t4:=Tryz.underlying4
 a4:=Tryz.isAgg4
 z4:=Tryz.sizeOf4
 v4:=Tryz.zeroValue4
 t5:=Tryz.underlying5
 a5:=Tryz.isAgg5
 z5:=Tryz.sizeOf5
 v5:=Tryz.zeroValue5
 t9:=Tryz.underlying9
 a9:=Tryz.isAgg9
 z9:=Tryz.sizeOf9
 v9:=Tryz.zeroValue9
 t46:=Tryz.underlying71
 a46:=Tryz.isAgg71
 z46:=Tryz.sizeOf71
 v46:=Tryz.zeroValue71
 t51:=Tryz.underlying68
 a51:=Tryz.isAgg68
 z51:=Tryz.sizeOf68
 v51:=Tryz.zeroValue68
 t59:=Tryz.underlying227
 a59:=Tryz.isAgg227
 z59:=Tryz.sizeOf227
 v59:=Tryz.zeroValue227
 t146:=Tryz.underlying323
 a146:=Tryz.isAgg323
 z146:=Tryz.sizeOf323
 v146:=Tryz.zeroValue323
 g1:=by kernel_rfl }
open Go.RowKit Go.Lib in
theorem Tryz.strings_Cut (s sep:ByteArray) (m:Int) (w:World) (hs:s.size<4294967281) (hm:w.cell? ⟨1,0,none⟩=some (.int .i64 m)) :
 Calls Tryz.prog 117 #[.string s,.string sep] w fun e w'=>e=.returned (.tuple #[.string ⟨(Lib.cut s.data.toList sep.data.toList).1.toArray⟩,.string ⟨(Lib.cut s.data.toList sep.data.toList).2.1.toArray⟩,.bool (Lib.cut s.data.toList sep.data.toList).2.2])∧∃n,w'=w.drewN n:=Any.strings_Cut Tryz.Uw s sep m w hs hm
def Tryz.FO:Go.Shelf.Ren:=⟨fun|102=>111|209=>147|207=>182|n=>n,fun|9=>9|4=>4|3=>3|n=>n,fun|n=>n⟩
theorem Tryz.Ux:Go.Proofs.Lays.n102 Tryz.prog Tryz.FO:={
 mixed:=by kernel_rfl
 f102:=Tryz.func111.trans (congrArg some (by kernel_rfl))
 f207:=Tryz.func182.trans (congrArg some (by kernel_rfl))
 f209:=Tryz.func147.trans (congrArg some (by kernel_rfl))
 t3:=Tryz.underlying3
 a3:=Tryz.isAgg3
 z3:=Tryz.sizeOf3
 v3:=Tryz.zeroValue3
 t4:=Tryz.underlying4
 a4:=Tryz.isAgg4
 z4:=Tryz.sizeOf4
 v4:=Tryz.zeroValue4
 t9:=Tryz.underlying9
 a9:=Tryz.isAgg9
 z9:=Tryz.sizeOf9
 v9:=Tryz.zeroValue9 }
open Go.RowKit Go.Lib in
theorem Tryz.strings_TrimSuffix (s p:ByteArray) (w:World) (hs:s.size≤9223372036854775807) :
 Calls Tryz.prog 111 #[.string s,.string p] w fun e w'=>e=.returned (.string ⟨(Lib.trimSuffix s.data.toList p.data.toList).toArray⟩)∧w'=w:=Any.strings_TrimSuffix Tryz.Ux s p w hs
def Tryz.FP:Go.Shelf.Ren:=⟨fun|146=>148|221=>183|268=>207|138=>208|143=>209|195=>227|197=>190|218=>228|219=>188|260=>217|217=>181|225=>214|224=>215|267=>216|266=>206|314=>236|n=>n,fun|9=>9|31=>168|3=>3|4=>4|0=>0|105=>288|21=>21|5=>5|46=>71|119=>325|139=>328|138=>327|146=>323|51=>68|n=>n,fun|1=>1|3=>2|4=>3|n=>n⟩
theorem Tryz.Uy:Go.Proofs.Lays.n146 Tryz.prog Tryz.FP:={
 mixed:=by kernel_rfl
 f138:=Tryz.func208.trans (congrArg some (by kernel_rfl))
 f143:=Tryz.func209.trans (congrArg some (by kernel_rfl))
 f146:=Tryz.func148.trans (congrArg some (by kernel_rfl))
 f195:=Tryz.func227.trans (congrArg some (by kernel_rfl))
 f197:=Tryz.func190.trans (congrArg some (by kernel_rfl))
 f217:=Tryz.func181.trans (congrArg some (by kernel_rfl))
 f218:=Tryz.func228.trans (congrArg some (by kernel_rfl))
 f219:=Tryz.func188.trans (congrArg some (by kernel_rfl))
 f221:=Tryz.func183.trans (congrArg some (by kernel_rfl))
 f224:=Tryz.func215.trans (congrArg some (by kernel_rfl))
 f225:=Tryz.func214.trans (congrArg some (by kernel_rfl))
 f260:=Tryz.func217.trans (congrArg some (by kernel_rfl))
 f266:=Tryz.func206.trans (congrArg some (by kernel_rfl))
 f267:=Tryz.func216.trans (congrArg some (by kernel_rfl))
 f268:=Tryz.func207.trans (congrArg some (by kernel_rfl))
 f314:=Tryz.func236.trans (congrArg some (by kernel_rfl))
 t0:=Tryz.underlying0
 a0:=Tryz.isAgg0
 z0:=Tryz.sizeOf0
 v0:=Tryz.zeroValue0
 t3:=Tryz.underlying3
 a3:=Tryz.isAgg3
 z3:=Tryz.sizeOf3
 v3:=Tryz.zeroValue3
 t4:=Tryz.underlying4
 a4:=Tryz.isAgg4
 z4:=Tryz.sizeOf4
 v4:=Tryz.zeroValue4
 t5:=Tryz.underlying5
 a5:=Tryz.isAgg5
 z5:=Tryz.sizeOf5
 v5:=Tryz.zeroValue5
 t9:=Tryz.underlying9
 a9:=Tryz.isAgg9
 z9:=Tryz.sizeOf9
 v9:=Tryz.zeroValue9
 t21:=Tryz.underlying21
 a21:=Tryz.isAgg21
 z21:=Tryz.sizeOf21
 v21:=Tryz.zeroValue21
 t31:=Tryz.underlying168
 a31:=Tryz.isAgg168
 z31:=Tryz.sizeOf168
 v31:=Tryz.zeroValue168
 t46:=Tryz.underlying71
 a46:=Tryz.isAgg71
 z46:=Tryz.sizeOf71
 v46:=Tryz.zeroValue71
 t51:=Tryz.underlying68
 a51:=Tryz.isAgg68
 z51:=Tryz.sizeOf68
 v51:=Tryz.zeroValue68
 t105:=Tryz.underlying288
 a105:=Tryz.isAgg288
 z105:=Tryz.sizeOf288
 v105:=Tryz.zeroValue288
 t119:=Tryz.underlying325
 a119:=Tryz.isAgg325
 z119:=Tryz.sizeOf325
 t138:=Tryz.underlying327
 a138:=Tryz.isAgg327
 z138:=Tryz.sizeOf327
 v138:=Tryz.zeroValue327
 t139:=Tryz.underlying328
 a139:=Tryz.isAgg328
 z139:=Tryz.sizeOf328
 v139:=Tryz.zeroValue328
 t146:=Tryz.underlying323
 a146:=Tryz.isAgg323
 z146:=Tryz.sizeOf323
 v146:=Tryz.zeroValue323
 g1:=by kernel_rfl
 g3:=by kernel_rfl
 g4:=by kernel_rfl }
open Go.RowKit Go.Lib in
theorem Tryz.strings_Split (s sep:ByteArray) (m:Int) (w:World) (hs:s.size<4294967281) (hm:w.cell? ⟨1,0,none⟩=some (.int .i64 m)) (h1:1≤sep.size) :
 Calls Tryz.prog 148 #[.string s,.string sep] w fun e w'=>
  e=.returned (.slice (some ⟨w.heap.size,0,none⟩) (Lib.countB s sep+1) (Lib.countB s sep+1))∧w'=w.alloc (.cells ((Lib.splitB sep 0 (Lib.countB s sep) s).map Value.string).toArray 9):=Any.strings_Split Tryz.Uy (by kernel_rfl) s sep m w hs hm h1
def Tryz.Aw:Go.Shelf.Ren:=⟨fun|15=>143|n=>n,fun|22=>23|3=>3|4=>4|n=>n,fun|n=>n⟩
theorem Tryz.ve:Go.Proofs.Lays2.n15 Tryz.prog Tryz.Aw:={
 mixed:=by kernel_rfl
 f15:=Tryz.func143.trans (congrArg some (by kernel_rfl))
 t3:=Tryz.underlying3
 a3:=Tryz.isAgg3
 z3:=Tryz.sizeOf3
 v3:=Tryz.zeroValue3
 t4:=Tryz.underlying4
 a4:=Tryz.isAgg4
 z4:=Tryz.sizeOf4
 v4:=Tryz.zeroValue4
 t22:=Tryz.underlying23
 a22:=Tryz.isAgg23
 z22:=Tryz.sizeOf23
 v22:=Tryz.zeroValue23
 i3:=by kernel_rfl }
open Go.RowKit Go.Lib in
theorem Tryz.slices_Clone_int (b off n c:Nat) (zs:List Int) (w:World) (hz:n≤zs.length) (hbig:n*8≤140737488355328) (hc:∀j,j<zs.length→w.cell? ⟨b,off+j,none⟩=some (.int .i64 (zs.getD j 0))) :
 Calls Tryz.prog 143 #[.slice (some ⟨b,off,none⟩) n c] w fun e w'=>∃v',e=.returned v'∧w'.ownsRow w.heap.size 3 1 v' n ((zs.take n).map (Value.int .i64))∧v'≠.slice none 0 0∧Below w.heap.size w w':=Any.slices_Clone_int Tryz.ve b off n c zs w hz hbig hc
open Go.RowKit Go.Lib in
theorem Tryz.slices_Clone_int_nil (n c:Nat) (w:World) :
 Calls Tryz.prog 143 #[.slice none n c] w fun e w'=>e=.returned (.slice none 0 0)∧w'=w:=Any.slices_Clone_int_nil Tryz.ve n c w
open Go.RowKit Go.Lib in
theorem Tryz.slices_Clone_int_zero (a:Addr) (c:Nat) (w:World) :
 Calls Tryz.prog 143 #[.slice (some a) 0 c] w fun e w'=>∃v',e=.returned v'∧w'.ownsRow w.heap.size 3 1 v' 0 []∧v'≠.slice none 0 0∧Below w.heap.size w w':=Any.slices_Clone_int_zero Tryz.ve a c w
end
end Go.Proofs
namespace Go.Proofs.YtmpkfkoficehpaaGreatDoor
open Go.RowKit Go.Sort
abbrev encR:Int→Value:=fun x=>Value.int .i32 x
theorem vg (x:Int) (w:World):Calls Tryz.prog 167 #[.int .i32 x] w fun e w'=>e=.returned (.bool false)∧w'=w:=by
 go_enter Tryz.func167,Tryz.ntmps167;go_wp2;go_ret;exact ⟨by simp,rfl⟩
theorem aK (x y:Int) (w:World):Calls Tryz.prog 129 #[.int .i32 x,.int .i32 y] w fun e w'=>e=.returned (.bool (Sort.ltInt x y))∧w'=w:=by
 go_enter Tryz.func129,Tryz.ntmps129;go_wp2_with (go_at_call 167;refine (vg _ _).mono ?_;rintro e w' ⟨rfl,rfl⟩);go_ret;exact ⟨rfl,rfl⟩
theorem oJ (blk off cap a b:Nat) (d:Array Int) (w:World) (hH:Holds (Value.int .i32) w blk off d) (hab:a≤b) (hb:b≤d.size) (hsz:d.size<4611686018427387904) :
 Calls Tryz.prog 193 #[.slice (some ⟨blk,off,none⟩) d.size cap,.int .i64 a,.int .i64 b] w fun e w'=>
  e=.returned (.tuple #[])∧∃n,w'=putRow (Value.int .i32) (Sort.ahead w n) blk off (Sort.insertionSort ltInt d a b):=by
 go_enter Tryz.func193,Tryz.ntmps193;go_wp2
 go_loopw [6] (fun vi wr=>∃(i n:Nat) (dk:Array Int),vi=.int .i64 i∧a<i∧i≤b+1∧dk.size=d.size∧wr=putRow (Value.int .i32) (Sort.ahead w n) blk off dk∧
  insOuter ltInt a b i dk=insOuter ltInt a b (a+1) d) (fun vi _=>b+1-(intOf vi).toNat)
 case atStart=>exact ⟨a+1,0,d,by go_num,by omega,by omega,rfl,(putRow_self _ _ _ _ _ hH).symm,rfl⟩
 case round=>
  obtain ⟨i,n,dk,rfl,hai,hib,hsk,hwr,hO⟩:=hrel;have HO:Hid (insOuter ltInt a b i dk=insOuter ltInt a b (a+1) d):=hO;clear hO;go_wp2
  ·
   go_loopw [7] (fun vj wr2=>∃(j m:Nat) (dj:Array Int),vj=.int .i64 j∧a≤j∧j≤i∧dj.size=d.size∧wr2=putRow (Value.int .i32) (Sort.ahead w m) blk off dj∧
    insInner ltInt a j dj=insInner ltInt a i dk) (fun vj _=>(intOf vj).toNat)
   case atStart=>exact ⟨i,n,dk,rfl,by omega,Nat.le_refl _,hsk,rfl,rfl⟩
   case round=>
    obtain ⟨j,m,dj,rfl,haj,hji,hsj,hw2,hI⟩:=hrel;have hlt:i<b:=by assumption
    obtain ⟨G,hG⟩:∃G:Nat→Int,∀t,G t=dj[t]!:=⟨fun t=>dj[t]!,fun _=>rfl⟩;have hcw:∀t,t<d.size→wr.cell? ⟨blk,off+t,none⟩=some (.int .i32 (G t)):=fun t ht=>by
     rw [hw2,hG];exact cell?_putRow _ _ _ _ d dj (holds_ahead _ _ _ _ _ _ hH) hsj t (by omega)
    have hfw:∀t,t<d.size→wr.frozen? ⟨blk,off+t,none⟩=false:=fun t ht=>by
     rw [hw2,frozen?_putRow];exact ((holds_ahead _ _ m _ _ _ hH) t ht).2
    have HW:Hid (wr=putRow (Value.int .i32) (Sort.ahead w m) blk off dj):=hw2;have HG:Hid (∀t,G t=dj[t]!):=hG;have HI:Hid (insInner ltInt a j dj=insInner ltInt a i dk):=hI;clear hw2 hG hI hH;have out:(j≤a∨ltInt dj[j]! dj[j-1]! = false)→∀q,∃i' n' dk',Value.int .i64 ((i:Int)+1)=.int .i64 (i':Nat)∧a<i'∧i'≤b+1∧dk'.size=d.size∧
     wr.drewN q=putRow (Value.int .i32) (Sort.ahead w n') blk off dk'∧insOuter ltInt a b i' dk'=insOuter ltInt a b (a+1) d:=fun hs q=>
     ⟨i+1,m+q,dj,by go_num,by omega,by omega,hsj,by rw [HW.out];exact putRow_drewN _ _ _ _ _ _ _,
       by rw [←HO.out,insOuter_go _ _ _ _ _ hlt,←HI.out,insInner_stop _ _ _ _ hs]⟩
    have OUT:Hid _:=out;clear out;go_wp2;by_cases hja:a<j
    ·go_quiet (first|(go_at_call 129;refine Calls.quiet_of_same (aK _ _ _)));go_wp2
     ·
      have hl:ltInt (G j) (G (j-1))=true:=by assumption
      go_region
      all_goals go_wp2
      go_roundw
      case rel=>
       refine ⟨j-1,m+(nq+1),swp dj j (j-1),by congr 1;omega,by omega,by omega,by rw [size_swp];exact hsj,?_,?_⟩
       ·rw [HW.out,HG.out,HG.out];exact swap_worldA _ w m (nq+1) blk off dj j (j-1) (by omega) (by omega)
       ·rw [←HI.out,insInner_go ltInt a j dj hja (by rw [←HG.out,←HG.out];exact hl)]
      case measure=>simp [intOf];omega
     ·
      have hl:ltInt (G j) (G (j-1))=false:=by assumption
      go_roundw
      case rel=>exact OUT.out (Or.inr (by rw [←HG.out,←HG.out];exact hl)) nq
      case measure=>simp [intOf];omega
    ·go_quiet (first|(go_at_call 129;refine Calls.quiet_of_same (aK _ _ _)));go_wp2;go_roundw
     case rel=>exact OUT.out (Or.inl (by omega)) nq
     case measure=>simp [intOf];omega
  ·
   have hge:¬i<b:=by assumption
   go_end0
   exact ⟨rfl,n,by unfold Sort.insertionSort;rw [←HO.out,insOuter_stop _ _ _ _ _ hge]⟩
theorem qJ (blk off cap:Nat) (d:Array Int) (a b:Nat) (w:World) (hH:Holds encR w blk off d) (hab:a≤b) (hb:b≤d.size) (hsz:d.size<4611686018427387904) :
 Calls Tryz.prog 197 #[.slice (some ⟨blk,off,none⟩) d.size cap,.int .i64 a,.int .i64 b] w fun e w'=>e=.returned (.tuple #[])∧∃n,w'=putRow encR (Sort.ahead w n) blk off (reverseRange d a b):=by
 go_enter Tryz.func197,Tryz.ntmps197;go_wp2
 go_loopg [6,7] (b-a) (fun k s6 s7 wr=>∃(i jn:Nat) (jz:Int) (dk:Array Int) (n:Nat),s6=.int .i64 i∧s7=.int .i64 jz∧((i:Int)<jz→jz=jn∧jn<d.size)∧(¬(i:Int)<jz→¬i<jn)∧jn-i≤k∧
  dk.size=d.size∧wr=putRow encR (Sort.ahead w n) blk off dk∧reverseLoop i jn dk=reverseLoop a (b-1) d)
 case atStart=>exact ⟨a,b-1,(b:Int)-1,d,0,rfl,rfl,fun h=>⟨by omega,by omega⟩,fun h=>by omega,by omega,rfl,(putRow_self encR w blk off d hH).symm,rfl⟩
 case round=>
  obtain ⟨i,jn,jz,dk,n,rfl,rfl,h1,h2,hk,hds,hwr,heq⟩:=hrel;by_cases hlt:(i:Int)<jz
  ·obtain ⟨rfl,hjn⟩:=h1 hlt;have hij:i<jn:=by omega
   have hHk:Holds encR wr blk off dk:=by rw [hwr];exact holds_putRow encR _ blk off d dk (holds_ahead encR w n blk off d hH) hds
   obtain ⟨ci,fi⟩:=hHk i (by omega);obtain ⟨cj,fj⟩:=hHk jn (by omega);have A:Aside (wr=putRow encR (Sort.ahead w n) blk off dk):=hwr;clear hwr hHk hH h1 h2;go_wp2_with fail;go_region;go_wp2
   go_roundg (jn-1-(i+1))
   case measure=>omega
   case rel=>
    rw [reverseLoop,if_pos hij] at heq
    exact ⟨i+1,jn-1,(jn:Int)-1,swp dk i jn,n+1,by simp,rfl,fun h=>⟨by omega,by omega⟩,fun h=>by omega,Nat.le_refl _,by rw [size_swp];exact hds,
     swap_world encR (by omega) (by omega) A.out (by simp [encR,getElem!_pos,show jn<dk.size by omega]) rfl,heq⟩
  ·have hnot:=h2 hlt;go_wp2
   go_end0
   refine ⟨rfl,n,?_⟩;rw [reverseLoop,if_neg hnot] at heq;rw [reverseRange,←heq]
theorem jT (blk off cap a b:Nat) (d:Array Int) (w:World) (hH:Holds (Value.int .i32) w blk off d) (hab:a<b) (hb:b≤d.size) (hsz:d.size<4611686018427387904) :
 Calls Tryz.prog 198 #[.slice (some ⟨blk,off,none⟩) d.size cap,.int .i64 a,.int .i64 b] w fun e w'=>
  e=.returned (.bool (Sort.partialInsertionSort ltInt d a b).2)∧∃n,w'=putRow (Value.int .i32) (Sort.ahead w n) blk off (Sort.partialInsertionSort ltInt d a b).1:=by
 have HH:Hid (Holds (Value.int .i32) w blk off d):=hH;have HST:Hid (w=putRow (Value.int .i32) (Sort.ahead w 0) blk off d):=(putRow_self _ _ _ _ _ hH).symm;clear hH;go_enter Tryz.func198,Tryz.ntmps198;go_wp2
 go_loopw [7,8] (fun vi vs wr=>∃(i s n:Nat) (dk:Array Int),vi=.int .i64 i∧vs=.int .i64 s∧s≤5∧a<i∧i≤b∧dk.size=d.size∧wr=putRow (Value.int .i32) (Sort.ahead w n) blk off dk∧
  partialIns ltInt a b (5-s) i dk=partialIns ltInt a b 5 (a+1) d) (fun _ vs _=>5-(intOf vs).toNat)
 case atStart=>exact ⟨a+1,0,0,d,by go_num,rfl,by omega,by omega,by omega,rfl,HST.out,rfl⟩
 case round=>
  obtain ⟨i,s,n,dk,rfl,rfl,hs5,hai,hib,hsk,hwr,hO⟩:=hrel;have HO:Hid (partialIns ltInt a b (5-s) i dk=partialIns ltInt a b 5 (a+1) d):=hO;clear hO;go_wp2
  ·
   have hs:s<5:=by omega
   go_loopw [7] (fun vi wr2=>∃(k m:Nat),vi=.int .i64 k∧i≤k∧k≤b∧wr2=putRow (Value.int .i32) (Sort.ahead w m) blk off dk∧scanSorted ltInt dk b k=scanSorted ltInt dk b i) (fun vi _=>b-(intOf vi).toNat)
   case atStart=>exact ⟨i,n,rfl,Nat.le_refl _,hib,rfl,rfl⟩
   case round=>
    obtain ⟨k,m,rfl,hik,hkb,hw2,hS⟩:=hrel;obtain ⟨G,hG⟩:∃G:Nat→Int,∀t,G t=dk[t]!:=⟨fun t=>dk[t]!,fun _=>rfl⟩;have hcw:∀t,t<d.size→wr.cell? ⟨blk,off+t,none⟩=some (.int .i32 (G t)):=fun t ht=>by
     rw [hw2,hG];exact cell?_putRow _ _ _ _ d dk (holds_ahead _ _ _ _ _ _ HH.out) hsk t (by omega)
    have hfw:∀t,t<d.size→wr.frozen? ⟨blk,off+t,none⟩=false:=fun t ht=>by
     rw [hw2,frozen?_putRow];exact ((holds_ahead _ _ m _ _ _ HH.out) t ht).2
    have HW:Hid (wr=putRow (Value.int .i32) (Sort.ahead w m) blk off dk):=hw2;have HG:Hid (∀t,G t=dk[t]!):=hG;have HS:Hid (scanSorted ltInt dk b k=scanSorted ltInt dk b i):=hS;clear hw2 hG hS;go_wp2;by_cases hkb':k<b
    ·go_quiet (first|(go_at_call 129;refine Calls.quiet_of_same (aK _ _ _)));go_wp2
     all_goals first
      | (at_end
         have hl:ltInt (G k) (G (k-1))=false:=by
          have h:(!ltInt (G k) (G (k-1)))=true:=by assumption
          simpa using h
         go_roundw
         case rel=>exact ⟨k+1,m+nq,by go_num,by omega,by omega,by rw [HW.out];exact putRow_drewN _ _ _ _ _ _ _,by rw [←HS.out,scanSorted_go ltInt dk b k hkb' (by rw [←HG.out,←HG.out];exact hl)]⟩
         case measure=>simp [intOf];omega)
      | (have hl:ltInt (G k) (G (k-1))=true:=by
          have h:(!ltInt (G k) (G (k-1)))=false:=by assumption
          simpa using h
         have HK:Hid (scanSorted ltInt dk b i=k):=by
          show scanSorted ltInt dk b i=k;rw [←HS.out,scanSorted_stop ltInt dk b k (Or.inr (by rw [←HG.out,←HG.out];exact hl))]
         first
          | (at_ret
             have hv:Sort.partialInsertionSort ltInt d a b=(dk,false):=by
              unfold Sort.partialInsertionSort;rw [←HO.out,pi_short ltInt a b s i dk hs (by rw [HK.out];omega) (by omega)]
             rw [hv];go_ret
             exact ⟨rfl,m+nq,by rw [HW.out];exact putRow_drewN _ _ _ _ _ _ _⟩)
          | (at_region 11
             have h50:¬b-a<50:=by omega
             go_region;have hsw:((wr.drewN (nq+1)).setCell ⟨blk,off+k,none⟩ (.int .i32 (G (k-1)))).setCell ⟨blk,off+(k-1),none⟩ (.int .i32 (G k))=putRow (Value.int .i32) (Sort.ahead w (m+(nq+1))) blk off (swp dk k (k-1)):=by
              rw [HW.out,HG.out,HG.out];exact swap_worldA _ w m (nq+1) blk off dk k (k-1) (by omega) (by omega)
             have hs1:(swp dk k (k-1)).size=d.size:=by rw [size_swp];exact hsk
             go_wp2
             all_goals first
              | (at_loop
                 have hka:k-a≥2:=by omega
                 go_loopw [9] (fun vj wr2=>∃(j m2:Nat) (dj:Array Int),vj=.int .i64 j∧j≤k-1∧dj.size=d.size∧wr2=putRow (Value.int .i32) (Sort.ahead w m2) blk off dj∧
                  shiftDown ltInt j dj=shiftDown ltInt (k-1) (swp dk k (k-1))) (fun vj _=>(intOf vj).toNat)
                 case atStart=>exact ⟨k-1,_,(swp dk k (k-1)),by congr 1;omega,Nat.le_refl _,hs1,rfl,rfl⟩
                 case round=>
                  obtain ⟨j,m2,dj,rfl,hjk,hsj,hw2,hDn⟩:=hrel;obtain ⟨G,hG⟩:∃G:Nat→Int,∀t,G t=dj[t]!:=⟨fun t=>dj[t]!,fun _=>rfl⟩;have hcw:∀t,t<d.size→wr.cell? ⟨blk,off+t,none⟩=some (.int .i32 (G t)):=fun t ht=>by
                   rw [hw2,hG];exact cell?_putRow _ _ _ _ d dj (holds_ahead _ _ _ _ _ _ HH.out) hsj t (by omega)
                  have hfw:∀t,t<d.size→wr.frozen? ⟨blk,off+t,none⟩=false:=fun t ht=>by
                   rw [hw2,frozen?_putRow];exact ((holds_ahead _ _ m2 _ _ _ HH.out) t ht).2
                  have HW:Hid (wr=putRow (Value.int .i32) (Sort.ahead w m2) blk off dj):=hw2;have HG:Hid (∀t,G t=dj[t]!):=hG;have HDn:Hid (shiftDown ltInt j dj=shiftDown ltInt (k-1) (swp dk k (k-1))):=hDn;clear hw2 hG hDn hsw;go_wp2
                  all_goals first
                   | (at_region 16
                      go_quiet (first|(go_at_call 129;refine Calls.quiet_of_same (aK _ _ _)));go_wp2
                      all_goals first
                       | (at_region 17
                          have hl:ltInt (G j) (G (j-1))=true:=by
                           have h:(!ltInt (G j) (G (j-1)))=false:=by assumption
                           simpa using h
                          go_region
                          all_goals go_wp2
                          go_roundw
                          case rel=>
                           refine ⟨j-1,m2+(nq+1),swp dj j (j-1),by congr 1;omega,by omega,by rw [size_swp];exact hsj,?_,?_⟩
                           ·rw [HW.out,HG.out,HG.out];exact swap_worldA _ w m2 (nq+1) blk off dj j (j-1) (by omega) (by omega)
                           ·rw [←HDn.out,shiftDown_go ltInt j dj (by omega) (by rw [←HG.out,←HG.out];exact hl)]
                          case measure=>simp [intOf];omega)
                       | (
                          have hl:ltInt (G j) (G (j-1))=false:=by
                           have h:(!ltInt (G j) (G (j-1)))=true:=by assumption
                           simpa using h
                          have HD:Hid (fixDown ltInt a k (swp dk k (k-1))=dj):=by
                           show fixDown ltInt a k (swp dk k (k-1))=dj;unfold fixDown;rw [if_pos hka,←HDn.out,shiftDown_stop ltInt j dj (Or.inr (by rw [←HG.out,←HG.out];exact hl))]
                          first
                           | (at_end
                              go_roundw
                              case rel=>
                               refine ⟨k,s+1,_,dj,rfl,by go_num,by omega,by omega,by omega,hsj,(by first|rfl|exact HW.out|(rw [HW.out];exact putRow_drewN _ _ _ _ _ _ _)),?_⟩;rw [←HO.out,pi_go ltInt a b s i k dk hs HK.out (by omega) (by omega),HD.out,show fixUp ltInt b k dj=dj from by unfold fixUp;rw [if_neg (by omega)]]
                              case measure=>simp [intOf];omega)
                           | (at_loop
                              go_loopw [10] (fun vj wr2=>∃(j m3:Nat) (du:Array Int),vj=.int .i64 j∧k+1≤j∧j≤b∧du.size=d.size∧wr2=putRow (Value.int .i32) (Sort.ahead w m3) blk off du∧
                               shiftUp ltInt b j du=shiftUp ltInt b (k+1) dj) (fun vj _=>b-(intOf vj).toNat)
                              case atStart=>exact ⟨k+1,_,dj,by go_num,Nat.le_refl _,by omega,hsj,(by first|rfl|exact HW.out|(rw [HW.out];exact putRow_drewN _ _ _ _ _ _ _)),rfl⟩
                              case round=>
                               obtain ⟨j,m3,du,rfl,hkj,hjb,hsu,hw3,hU⟩:=hrel;obtain ⟨G,hG⟩:∃G:Nat→Int,∀t,G t=du[t]!:=⟨fun t=>du[t]!,fun _=>rfl⟩;have hcw:∀t,t<d.size→wr.cell? ⟨blk,off+t,none⟩=some (.int .i32 (G t)):=fun t ht=>by
                                rw [hw3,hG];exact cell?_putRow _ _ _ _ d du (holds_ahead _ _ _ _ _ _ HH.out) hsu t (by omega)
                               have hfw:∀t,t<d.size→wr.frozen? ⟨blk,off+t,none⟩=false:=fun t ht=>by
                                rw [hw3,frozen?_putRow];exact ((holds_ahead _ _ m3 _ _ _ HH.out) t ht).2
                               have HW:Hid (wr=putRow (Value.int .i32) (Sort.ahead w m3) blk off du):=hw3;have HG:Hid (∀t,G t=du[t]!):=hG;have HU:Hid (shiftUp ltInt b j du=shiftUp ltInt b (k+1) dj):=hU;clear hw3 hG hU;go_wp2
                               all_goals first
                                | (at_region 22
                                   go_quiet (first|(go_at_call 129;refine Calls.quiet_of_same (aK _ _ _)));go_wp2
                                   all_goals first
                                    | (at_region 23
                                       have hl:ltInt (G j) (G (j-1))=true:=by
                                        have h:(!ltInt (G j) (G (j-1)))=false:=by assumption
                                        simpa using h
                                       go_region
                                       all_goals go_wp2
                                       go_roundw
                                       case rel=>
                                        refine ⟨j+1,m3+(nq+1),swp du j (j-1),by go_num,by omega,by omega,by rw [size_swp];exact hsu,?_,?_⟩
                                        ·rw [HW.out,HG.out,HG.out];exact swap_worldA _ w m3 (nq+1) blk off du j (j-1) (by omega) (by omega)
                                        ·rw [←HU.out,shiftUp_go ltInt b j du (by omega) (by rw [←HG.out,←HG.out];exact hl)]
                                       case measure=>simp [intOf];omega)
                                    | (at_end
                                       have hl:ltInt (G j) (G (j-1))=false:=by
                                        have h:(!ltInt (G j) (G (j-1)))=true:=by assumption
                                        simpa using h
                                       go_roundw
                                       case rel=>
                                        refine ⟨k,s+1,_,du,rfl,by go_num,by omega,by omega,by omega,hsu,(by first|rfl|exact HW.out|(rw [HW.out];exact putRow_drewN _ _ _ _ _ _ _)),?_⟩;rw [←HO.out,pi_go ltInt a b s i k dk hs HK.out (by omega) (by omega),HD.out,show fixUp ltInt b k dj=du from by unfold fixUp;rw [if_pos (by omega),←HU.out,shiftUp_stop ltInt b j du (Or.inr (by rw [←HG.out,←HG.out];exact hl))]]
                                       case measure=>simp [intOf];omega))
                                | (at_end
                                   go_roundw
                                   case rel=>
                                    refine ⟨k,s+1,_,du,rfl,by go_num,by omega,by omega,by omega,hsu,(by first|rfl|exact HW.out|(rw [HW.out];exact putRow_drewN _ _ _ _ _ _ _)),?_⟩;rw [←HO.out,pi_go ltInt a b s i k dk hs HK.out (by omega) (by omega),HD.out,show fixUp ltInt b k dj=du from by unfold fixUp;rw [if_pos (by omega),←HU.out,shiftUp_stop ltInt b j du (Or.inl (by omega))]]
                                   case measure=>simp [intOf];omega))))
                   | (
                      have HD:Hid (fixDown ltInt a k (swp dk k (k-1))=dj):=by
                       show fixDown ltInt a k (swp dk k (k-1))=dj;unfold fixDown;rw [if_pos hka,←HDn.out,shiftDown_stop ltInt j dj (Or.inl (by omega))]
                      first
                       | (at_end
                          go_roundw
                          case rel=>
                           refine ⟨k,s+1,_,dj,rfl,by go_num,by omega,by omega,by omega,hsj,(by first|rfl|exact HW.out|(rw [HW.out];exact putRow_drewN _ _ _ _ _ _ _)),?_⟩;rw [←HO.out,pi_go ltInt a b s i k dk hs HK.out (by omega) (by omega),HD.out,show fixUp ltInt b k dj=dj from by unfold fixUp;rw [if_neg (by omega)]]
                          case measure=>simp [intOf];omega)
                       | (at_loop
                          go_loopw [10] (fun vj wr2=>∃(j m3:Nat) (du:Array Int),vj=.int .i64 j∧k+1≤j∧j≤b∧du.size=d.size∧wr2=putRow (Value.int .i32) (Sort.ahead w m3) blk off du∧
                           shiftUp ltInt b j du=shiftUp ltInt b (k+1) dj) (fun vj _=>b-(intOf vj).toNat)
                          case atStart=>exact ⟨k+1,_,dj,by go_num,Nat.le_refl _,by omega,hsj,(by first|rfl|exact HW.out|(rw [HW.out];exact putRow_drewN _ _ _ _ _ _ _)),rfl⟩
                          case round=>
                           obtain ⟨j,m3,du,rfl,hkj,hjb,hsu,hw3,hU⟩:=hrel;obtain ⟨G,hG⟩:∃G:Nat→Int,∀t,G t=du[t]!:=⟨fun t=>du[t]!,fun _=>rfl⟩;have hcw:∀t,t<d.size→wr.cell? ⟨blk,off+t,none⟩=some (.int .i32 (G t)):=fun t ht=>by
                            rw [hw3,hG];exact cell?_putRow _ _ _ _ d du (holds_ahead _ _ _ _ _ _ HH.out) hsu t (by omega)
                           have hfw:∀t,t<d.size→wr.frozen? ⟨blk,off+t,none⟩=false:=fun t ht=>by
                            rw [hw3,frozen?_putRow];exact ((holds_ahead _ _ m3 _ _ _ HH.out) t ht).2
                           have HW:Hid (wr=putRow (Value.int .i32) (Sort.ahead w m3) blk off du):=hw3;have HG:Hid (∀t,G t=du[t]!):=hG;have HU:Hid (shiftUp ltInt b j du=shiftUp ltInt b (k+1) dj):=hU;clear hw3 hG hU;go_wp2
                           all_goals first
                            | (at_region 22
                               go_quiet (first|(go_at_call 129;refine Calls.quiet_of_same (aK _ _ _)));go_wp2
                               all_goals first
                                | (at_region 23
                                   have hl:ltInt (G j) (G (j-1))=true:=by
                                    have h:(!ltInt (G j) (G (j-1)))=false:=by assumption
                                    simpa using h
                                   go_region
                                   all_goals go_wp2
                                   go_roundw
                                   case rel=>
                                    refine ⟨j+1,m3+(nq+1),swp du j (j-1),by go_num,by omega,by omega,by rw [size_swp];exact hsu,?_,?_⟩
                                    ·rw [HW.out,HG.out,HG.out];exact swap_worldA _ w m3 (nq+1) blk off du j (j-1) (by omega) (by omega)
                                    ·rw [←HU.out,shiftUp_go ltInt b j du (by omega) (by rw [←HG.out,←HG.out];exact hl)]
                                   case measure=>simp [intOf];omega)
                                | (at_end
                                   have hl:ltInt (G j) (G (j-1))=false:=by
                                    have h:(!ltInt (G j) (G (j-1)))=true:=by assumption
                                    simpa using h
                                   go_roundw
                                   case rel=>
                                    refine ⟨k,s+1,_,du,rfl,by go_num,by omega,by omega,by omega,hsu,(by first|rfl|exact HW.out|(rw [HW.out];exact putRow_drewN _ _ _ _ _ _ _)),?_⟩;rw [←HO.out,pi_go ltInt a b s i k dk hs HK.out (by omega) (by omega),HD.out,show fixUp ltInt b k dj=du from by unfold fixUp;rw [if_pos (by omega),←HU.out,shiftUp_stop ltInt b j du (Or.inr (by rw [←HG.out,←HG.out];exact hl))]]
                                   case measure=>simp [intOf];omega))
                            | (at_end
                               go_roundw
                               case rel=>
                                refine ⟨k,s+1,_,du,rfl,by go_num,by omega,by omega,by omega,hsu,(by first|rfl|exact HW.out|(rw [HW.out];exact putRow_drewN _ _ _ _ _ _ _)),?_⟩;rw [←HO.out,pi_go ltInt a b s i k dk hs HK.out (by omega) (by omega),HD.out,show fixUp ltInt b k dj=du from by unfold fixUp;rw [if_pos (by omega),←HU.out,shiftUp_stop ltInt b j du (Or.inl (by omega))]]
                               case measure=>simp [intOf];omega))))
              | (
                 have HD:Hid (fixDown ltInt a k (swp dk k (k-1))=(swp dk k (k-1))):=by
                  show fixDown ltInt a k (swp dk k (k-1))=(swp dk k (k-1));unfold fixDown;rw [if_neg (by omega)]
                 first
                  | (at_end
                     go_roundw
                     case rel=>
                      refine ⟨k,s+1,_,(swp dk k (k-1)),rfl,by go_num,by omega,by omega,by omega,hs1,(by first|rfl|exact HW.out|(rw [HW.out];exact putRow_drewN _ _ _ _ _ _ _)),?_⟩;rw [←HO.out,pi_go ltInt a b s i k dk hs HK.out (by omega) (by omega),HD.out,show fixUp ltInt b k (swp dk k (k-1))=(swp dk k (k-1)) from by unfold fixUp;rw [if_neg (by omega)]]
                     case measure=>simp [intOf];omega)
                  | (at_loop
                     go_loopw [10] (fun vj wr2=>∃(j m3:Nat) (du:Array Int),vj=.int .i64 j∧k+1≤j∧j≤b∧du.size=d.size∧wr2=putRow (Value.int .i32) (Sort.ahead w m3) blk off du∧
                      shiftUp ltInt b j du=shiftUp ltInt b (k+1) (swp dk k (k-1))) (fun vj _=>b-(intOf vj).toNat)
                     case atStart=>exact ⟨k+1,_,(swp dk k (k-1)),by go_num,Nat.le_refl _,by omega,hs1,(by first|rfl|exact HW.out|(rw [HW.out];exact putRow_drewN _ _ _ _ _ _ _)),rfl⟩
                     case round=>
                      obtain ⟨j,m3,du,rfl,hkj,hjb,hsu,hw3,hU⟩:=hrel;obtain ⟨G,hG⟩:∃G:Nat→Int,∀t,G t=du[t]!:=⟨fun t=>du[t]!,fun _=>rfl⟩;have hcw:∀t,t<d.size→wr.cell? ⟨blk,off+t,none⟩=some (.int .i32 (G t)):=fun t ht=>by
                       rw [hw3,hG];exact cell?_putRow _ _ _ _ d du (holds_ahead _ _ _ _ _ _ HH.out) hsu t (by omega)
                      have hfw:∀t,t<d.size→wr.frozen? ⟨blk,off+t,none⟩=false:=fun t ht=>by
                       rw [hw3,frozen?_putRow];exact ((holds_ahead _ _ m3 _ _ _ HH.out) t ht).2
                      have HW:Hid (wr=putRow (Value.int .i32) (Sort.ahead w m3) blk off du):=hw3;have HG:Hid (∀t,G t=du[t]!):=hG;have HU:Hid (shiftUp ltInt b j du=shiftUp ltInt b (k+1) (swp dk k (k-1))):=hU;clear hw3 hG hU;go_wp2
                      all_goals first
                       | (at_region 22
                          go_quiet (first|(go_at_call 129;refine Calls.quiet_of_same (aK _ _ _)));go_wp2
                          all_goals first
                           | (at_region 23
                              have hl:ltInt (G j) (G (j-1))=true:=by
                               have h:(!ltInt (G j) (G (j-1)))=false:=by assumption
                               simpa using h
                              go_region
                              all_goals go_wp2
                              go_roundw
                              case rel=>
                               refine ⟨j+1,m3+(nq+1),swp du j (j-1),by go_num,by omega,by omega,by rw [size_swp];exact hsu,?_,?_⟩
                               ·rw [HW.out,HG.out,HG.out];exact swap_worldA _ w m3 (nq+1) blk off du j (j-1) (by omega) (by omega)
                               ·rw [←HU.out,shiftUp_go ltInt b j du (by omega) (by rw [←HG.out,←HG.out];exact hl)]
                              case measure=>simp [intOf];omega)
                           | (at_end
                              have hl:ltInt (G j) (G (j-1))=false:=by
                               have h:(!ltInt (G j) (G (j-1)))=true:=by assumption
                               simpa using h
                              go_roundw
                              case rel=>
                               refine ⟨k,s+1,_,du,rfl,by go_num,by omega,by omega,by omega,hsu,(by first|rfl|exact HW.out|(rw [HW.out];exact putRow_drewN _ _ _ _ _ _ _)),?_⟩;rw [←HO.out,pi_go ltInt a b s i k dk hs HK.out (by omega) (by omega),HD.out,show fixUp ltInt b k (swp dk k (k-1))=du from by unfold fixUp;rw [if_pos (by omega),←HU.out,shiftUp_stop ltInt b j du (Or.inr (by rw [←HG.out,←HG.out];exact hl))]]
                              case measure=>simp [intOf];omega))
                       | (at_end
                          go_roundw
                          case rel=>
                           refine ⟨k,s+1,_,du,rfl,by go_num,by omega,by omega,by omega,hsu,(by first|rfl|exact HW.out|(rw [HW.out];exact putRow_drewN _ _ _ _ _ _ _)),?_⟩;rw [←HO.out,pi_go ltInt a b s i k dk hs HK.out (by omega) (by omega),HD.out,show fixUp ltInt b k (swp dk k (k-1))=du from by unfold fixUp;rw [if_pos (by omega),←HU.out,shiftUp_stop ltInt b j du (Or.inl (by omega))]]
                          case measure=>simp [intOf];omega)))))
    ·
     go_quiet (first|(go_at_call 129;refine Calls.quiet_of_same (aK _ _ _)));go_wp2;obtain rfl:k=b:=by omega
     have hv:Sort.partialInsertionSort ltInt d a k=(dk,true):=by
      unfold Sort.partialInsertionSort;rw [←HO.out,pi_true ltInt a k s i dk hs (by rw [←HS.out,scanSorted_stop ltInt dk k k (Or.inl (by omega))])]
     rw [hv];go_ret;exact ⟨rfl,m+nq,by rw [HW.out];exact putRow_drewN _ _ _ _ _ _ _⟩
  ·
   obtain rfl:s=5:=by omega
   have hv:Sort.partialInsertionSort ltInt d a b=(dk,false):=by
    unfold Sort.partialInsertionSort;rw [←HO.out,pi_end]
   rw [hv];go_ret;exact ⟨rfl,n,rfl⟩
end Go.Proofs.YtmpkfkoficehpaaGreatDoor
