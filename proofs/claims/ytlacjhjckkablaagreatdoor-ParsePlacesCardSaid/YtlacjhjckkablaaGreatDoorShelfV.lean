/-
  The library's contracts at this program, laid by the kit's tools.
-/
import Derived.Shelf.Strings.Builder1
import Derived.Shelf.Strings.Builder2
import Derived.Shelf.Strings.Trim
import Derived.Shelf.Small.Utf8
import Derived.Shelf.Small.Strs
import Derived.Shelf.Small.Wraps
import Derived.Shelf.Strings.BuilderF
import Derived.Shelf.Strings.BuilderK
import Derived.Shelf.Strings.Builder2Cap
import Derived.Shelf.Strconv.Itoa0
import Derived.Shelf.Strconv.Itoa1
import Derived.Shelf.LaysM
import Derived.Shelf.Strconv.Itoa2
import Derived.Shelf.Strconv.Itoa3
import Derived.Shelf.Strconv.Itoa4
import Derived.Shelf.Strconv.ParseIntEmpty
import Derived.Shelf.Strconv.Clone
import Derived.Shelf.Strconv.SyntaxError
import Derived.Shelf.LaysC
import Derived.Shelf.Strconv.ToError
import Derived.Shelf.Strconv.Lower
import Derived.Shelf.Strconv.ParseUint10
import Derived.Shelf.Strconv.ParseUint10Empty
import Derived.Shelf.Strconv.ParseUint10Any
import Derived.Shelf.Strconv.ParseInt10
import Derived.Shelf.Strconv.RangeError
import Derived.Shelf.Strconv.ToErrorRange
import Derived.Shelf.Strconv.ParseUintEmpty
import Derived.Shelf.Strconv.ParseUint10b64
import Derived.Shelf.Strconv.ParseUint10b32
import Derived.Shelf.Strconv.ParseUint10b16
import Derived.Shelf.Strconv.ParseUint10b8
import Derived.Shelf.Strconv.ParseUint10At
import Derived.Shelf.Strconv.ParseInt10At64
import Derived.Shelf.Strconv.ParseInt10At32
import Derived.Shelf.Strconv.ParseInt10At16
import Derived.Shelf.Strconv.ParseInt10At8
import Derived.Shelf.Strconv.ParseInt10All
import Derived.Shelf.Strconv.ParseIntPublic10
import Derived.Shelf.Strconv.ErrVarParseInt
import Derived.Ground.MpProg
import Derived.Shelf.Pu.ParseUintPublic10
import Derived.Shelf.Pu.ErrVarParseUint
import Derived.Shelf.Strings.Search1
import Derived.Shelf.GgClosure.StringsIndexFunc
import Derived.Ground.GgwProg
import Derived.Shelf.GgClosure.StringsIndexFuncTop
import Derived.Shelf.GgClosure.StringsRunes
import Derived.Shelf.Strings.Prefix
import Derived.Shelf.Unicode.Decode
import Derived.Shelf.Strings.Runes
import Derived.Shelf.Strings.AsciiSet
import Derived.Shelf.Bits.Mul64
import Derived.Shelf.Strings.Repeat
import Derived.Shelf.Unicode.DecodeSlow
import Derived.Shelf.Unicode.DecodeAny
import Derived.Shelf.Unicode.DecodeLast
import Derived.Shelf.Strings.FuncGrows
import Derived.Shelf.Strings.BuilderCap
import Derived.Ground.Names2Prog
import Derived.Shelf.Slices.Clone
import Derived.Test.YtlacjhjckkablaaGreatDoorProg
import Derived.Ground.NamesProg
import Derived.Shelf.Unicode.ValidAny
namespace Go.Proofs
open Go.Proofs.Tryz
theorem Ct {α:Type} {x:Option α} {a b:α} (h:x=some a) (e:a=b:=by kernel_rfl):x=some b:=h.trans (congrArg some e)
open Go.Shelf
def Tryz.lays169_ren:Go.Shelf.Ren:=⟨fun|169=>161|n=>n,fun|70=>279|9=>9|0=>0|72=>281|37=>187|127=>316|3=>3|5=>5|n=>n,fun|n=>n⟩
theorem Tryz.lays169:Go.Proofs.Lays.n169 prog Tryz.lays169_ren:={
 mixed:=by kernel_rfl
 f169:=Ct func161
 t0:=underlying0
 a0:=isAgg0
 z0:=sizeOf0
 v0:=zeroValue0
 t3:=underlying3
 a3:=isAgg3
 z3:=sizeOf3
 v3:=zeroValue3
 t9:=underlying9
 a9:=isAgg9
 z9:=sizeOf9
 v9:=zeroValue9
 t37:=underlying187
 a37:=isAgg187
 z37:=sizeOf187
 v37:=zeroValue187
 t70:=underlying279
 a70:=isAgg279
 z70:=sizeOf279
 v70:=zeroValue279
 t72:=underlying281
 a72:=isAgg281
 z72:=sizeOf281
 v72:=zeroValue281
 t127:=underlying316
 a127:=isAgg316
 z127:=sizeOf316
 v127:=zeroValue316 }
theorem Tryz.Builder_Extra_169:Builder.Extra prog Tryz.lays169_ren:={
 sizeBuilder:=by kernel_rfl
 liesBuilder:=by kernel_rfl
 t5:=underlying5
 a5:=isAgg5
 z5:=sizeOf5
 v5:=zeroValue5
 infoByte:=by kernel_rfl
 cellsByte:=by kernel_rfl
 sizeByte:=by kernel_rfl
 neB5:=by decide }
def Tryz.lays161_ren:Go.Shelf.Ren:=⟨fun|161=>193|231=>218|227=>219|233=>220|235=>221|228=>238|197=>239|151=>116|260=>248|152=>148|137=>162|119=>163|224=>164|225=>165|217=>189|266=>217|n=>n,fun|9=>9|4=>4|3=>3|5=>5|117=>349|116=>348|0=>0|124=>352|105=>365|21=>21|119=>341|46=>266|139=>344|138=>343|n=>n,fun|3=>5|4=>6|n=>n⟩
theorem Tryz.lays161:Go.Proofs.Lays.n161 prog Tryz.lays161_ren:={
 mixed:=by kernel_rfl
 f119:=Ct func163
 f137:=Ct func162
 f151:=Ct func116
 f152:=Ct func148
 f161:=Ct func193
 f197:=Ct func239
 f217:=Ct func189
 f224:=Ct func164
 f225:=Ct func165
 f227:=Ct func219
 f228:=Ct func238
 f231:=Ct func218
 f233:=Ct func220
 f235:=Ct func221
 f260:=Ct func248
 f266:=Ct func217
 t0:=underlying0
 a0:=isAgg0
 z0:=sizeOf0
 v0:=zeroValue0
 t3:=underlying3
 a3:=isAgg3
 z3:=sizeOf3
 v3:=zeroValue3
 t4:=underlying4
 a4:=isAgg4
 z4:=sizeOf4
 v4:=zeroValue4
 t5:=underlying5
 a5:=isAgg5
 z5:=sizeOf5
 v5:=zeroValue5
 t9:=underlying9
 a9:=isAgg9
 z9:=sizeOf9
 v9:=zeroValue9
 t21:=underlying21
 a21:=isAgg21
 z21:=sizeOf21
 v21:=zeroValue21
 t46:=underlying266
 a46:=isAgg266
 z46:=sizeOf266
 v46:=zeroValue266
 t105:=underlying365
 a105:=isAgg365
 z105:=sizeOf365
 v105:=zeroValue365
 t116:=underlying348
 a116:=isAgg348
 z116:=sizeOf348
 t117:=underlying349
 a117:=isAgg349
 z117:=sizeOf349
 v117:=zeroValue349
 t119:=underlying341
 a119:=isAgg341
 z119:=sizeOf341
 t124:=underlying352
 a124:=isAgg352
 z124:=sizeOf352
 v124:=zeroValue352
 t138:=underlying343
 a138:=isAgg343
 z138:=sizeOf343
 v138:=zeroValue343
 t139:=underlying344
 a139:=isAgg344
 z139:=sizeOf344
 v139:=zeroValue344
 g3:=by kernel_rfl
 g4:=by kernel_rfl }
open Go.RowKit in
theorem Tryz.strings_TrimLeft_one (s:ByteArray) (c:UInt8) (hc:c.toNat < 128) (w:World) :
  Calls prog 193 #[.string s,.string ⟨#[c]⟩] w fun e w'=>e=.returned (.string ⟨(Lib.trimLeftB s.data.toList c).toArray⟩)∧w' = w:=Any.strings_TrimLeft_one Tryz.lays161 s c hc w
def Tryz.lays162_ren:Go.Shelf.Ren:=⟨fun|162=>194|232=>222|227=>219|234=>223|236=>224|228=>238|271=>240|151=>116|120=>249|197=>239|152=>148|260=>248|137=>162|119=>163|224=>164|225=>165|217=>189|266=>217|n=>n,fun|9=>9|4=>4|3=>3|5=>5|117=>349|116=>348|0=>0|124=>352|21=>21|105=>365|46=>266|119=>341|139=>344|138=>343|n=>n,fun|3=>5|4=>6|n=>n⟩
theorem Tryz.lays162:Go.Proofs.Lays.n162 prog Tryz.lays162_ren:={
 mixed:=by kernel_rfl
 f119:=Ct func163
 f120:=Ct func249
 f137:=Ct func162
 f151:=Ct func116
 f152:=Ct func148
 f162:=Ct func194
 f197:=Ct func239
 f217:=Ct func189
 f224:=Ct func164
 f225:=Ct func165
 f227:=Ct func219
 f228:=Ct func238
 f232:=Ct func222
 f234:=Ct func223
 f236:=Ct func224
 f260:=Ct func248
 f266:=Ct func217
 f271:=Ct func240
 t0:=underlying0
 a0:=isAgg0
 z0:=sizeOf0
 v0:=zeroValue0
 t3:=underlying3
 a3:=isAgg3
 z3:=sizeOf3
 v3:=zeroValue3
 t4:=underlying4
 a4:=isAgg4
 z4:=sizeOf4
 v4:=zeroValue4
 t5:=underlying5
 a5:=isAgg5
 z5:=sizeOf5
 v5:=zeroValue5
 t9:=underlying9
 a9:=isAgg9
 z9:=sizeOf9
 v9:=zeroValue9
 t21:=underlying21
 a21:=isAgg21
 z21:=sizeOf21
 v21:=zeroValue21
 t46:=underlying266
 a46:=isAgg266
 z46:=sizeOf266
 v46:=zeroValue266
 t105:=underlying365
 a105:=isAgg365
 z105:=sizeOf365
 v105:=zeroValue365
 t116:=underlying348
 a116:=isAgg348
 z116:=sizeOf348
 t117:=underlying349
 a117:=isAgg349
 z117:=sizeOf349
 v117:=zeroValue349
 t119:=underlying341
 a119:=isAgg341
 z119:=sizeOf341
 t124:=underlying352
 a124:=isAgg352
 z124:=sizeOf352
 v124:=zeroValue352
 t138:=underlying343
 a138:=isAgg343
 z138:=sizeOf343
 v138:=zeroValue343
 t139:=underlying344
 a139:=isAgg344
 z139:=sizeOf344
 v139:=zeroValue344
 g3:=by kernel_rfl
 g4:=by kernel_rfl }
open Go.RowKit in
theorem Tryz.strings_TrimRight_one (s:ByteArray) (c:UInt8) (hc:c.toNat < 128) (w:World) (hs:s.size≤9223372036854775807) :
  Calls prog 194 #[.string s,.string ⟨#[c]⟩] w fun e w'=>e=.returned (.string ⟨(Lib.trimRightB s.data.toList c).toArray⟩)∧w' = w:=Any.strings_TrimRight_one Tryz.lays162 s c hc w hs
def Tryz.lays118_ren:Go.Shelf.Ren:=⟨fun|118=>109|n=>n,fun|21=>21|3=>3|4=>4|n=>n,fun|n=>n⟩
theorem Tryz.lays118:Go.Proofs.Lays.n118 prog Tryz.lays118_ren:={
 mixed:=by kernel_rfl
 f118:=Ct func109
 t3:=underlying3
 a3:=isAgg3
 z3:=sizeOf3
 v3:=zeroValue3
 t4:=underlying4
 a4:=isAgg4
 z4:=sizeOf4
 v4:=zeroValue4
 t21:=underlying21
 a21:=isAgg21
 z21:=sizeOf21
 v21:=zeroValue21 }
theorem Tryz.utf8_RuneLen (r:Int) (w:World) :
  Calls prog 109 #[.int .i32 r] w fun e w'=>e=.returned (.int .i64 (Lib.runeLen r))∧w' = w:=Any.utf8_RuneLen Tryz.lays118 r w
def Tryz.lays119_ren:Go.Shelf.Ren:=⟨fun|119=>163|n=>n,fun|21=>21|4=>4|n=>n,fun|n=>n⟩
theorem Tryz.lays119:Go.Proofs.Lays.n119 prog Tryz.lays119_ren:={
 mixed:=by kernel_rfl
 f119:=Ct func163
 t4:=underlying4
 a4:=isAgg4
 z4:=sizeOf4
 v4:=zeroValue4
 t21:=underlying21
 a21:=isAgg21
 z21:=sizeOf21
 v21:=zeroValue21 }
theorem Tryz.utf8_ValidRune (r:Int) (w:World) :
  Calls prog 163 #[.int .i32 r] w fun e w'=>e=.returned (.bool (Lib.validRune r))∧w' = w:=Any.utf8_ValidRune Tryz.lays119 r w
def Tryz.lays137_ren:Go.Shelf.Ren:=⟨fun|137=>162|217=>189|266=>217|n=>n,fun|9=>9|5=>5|3=>3|n=>n,fun|n=>n⟩
theorem Tryz.lays137:Go.Proofs.Lays.n137 prog Tryz.lays137_ren:={
 mixed:=by kernel_rfl
 f137:=Ct func162
 f217:=Ct func189
 f266:=Ct func217
 t3:=underlying3
 a3:=isAgg3
 z3:=sizeOf3
 v3:=zeroValue3
 t5:=underlying5
 a5:=isAgg5
 z5:=sizeOf5
 v5:=zeroValue5
 t9:=underlying9
 a9:=isAgg9
 z9:=sizeOf9
 v9:=zeroValue9 }
open Go.RowKit in
theorem Tryz.strings_IndexByte (s:ByteArray) (c:Int) (w:World) :
  Calls prog 162 #[.string s,.int .u8 c] w fun e w'=>e=.returned (.int .i64 (Lib.indexByte s.data.toList c.toNat.toUInt8))∧w' = w:=Any.strings_IndexByte Tryz.lays137 s c w
def Tryz.lays210_ren:Go.Shelf.Ren:=⟨fun|210=>191|206=>144|n=>n,fun|9=>9|4=>4|3=>3|n=>n,fun|n=>n⟩
def Tryz.lays103_ren:Go.Shelf.Ren:=⟨fun|103=>168|210=>191|206=>144|n=>n,fun|9=>9|4=>4|24=>289|3=>3|n=>n,fun|n=>n⟩
theorem Tryz.lays103:Go.Proofs.Lays.n103 prog Tryz.lays103_ren:={
 mixed:=by kernel_rfl
 f103:=Ct func168
 f206:=Ct func144
 f210:=Ct func191
 t3:=underlying3
 a3:=isAgg3
 z3:=sizeOf3
 v3:=zeroValue3
 t4:=underlying4
 a4:=isAgg4
 z4:=sizeOf4
 v4:=zeroValue4
 t9:=underlying9
 a9:=isAgg9
 z9:=sizeOf9
 v9:=zeroValue9
 t24:=underlying289
 a24:=isAgg289
 z24:=sizeOf289
 v24:=zeroValue289 }
open Go.RowKit in
theorem Tryz.strings_CutPrefix (s p:ByteArray) (w:World) :
  Calls prog 168 #[.string s,.string p] w fun e w'=>e=.returned (.tuple #[.string ⟨(Lib.trimPrefix s.data.toList p.data.toList).toArray⟩,.bool (Lib.hasPrefix s.data.toList p.data.toList)])∧w' = w:=Any.strings_CutPrefix Tryz.lays103 s p w
open Go.RowKit in
theorem Tryz.Builder_String_any_f (B b:Nat) (l:List UInt8) (w:World) (h:Lib.IsBuilderF 281 5 B b (Lib.byteCells l) w) (hBw:B≤w.heap.size) :
  Calls prog 161 #[.pointer (some ⟨b,0,none⟩)] w fun e w'=>e=.returned (.string ⟨l.toArray⟩)∧(Lib.IsBuilderF 281 5 B b (Lib.byteCells l) w'∧Below B w w'):=Any.Builder_String_any_f Tryz.lays169 Tryz.Builder_Extra_169 B b l w h hBw
def Tryz.lays283_ren:Go.Shelf.Ren:=⟨fun|283=>175|n=>n,fun|3=>3|9=>9|4=>4|n=>n,fun|n=>n⟩
theorem Tryz.lays283:Go.Proofs.Lays.n283 prog Tryz.lays283_ren:={
 mixed:=by kernel_rfl
 f283:=Ct func175
 t3:=underlying3
 a3:=isAgg3
 z3:=sizeOf3
 v3:=zeroValue3
 t4:=underlying4
 a4:=isAgg4
 z4:=sizeOf4
 v4:=zeroValue4
 t9:=underlying9
 a9:=isAgg9
 z9:=sizeOf9
 v9:=zeroValue9 }
open Go.Lib in
theorem Tryz.internal_strconv_small (i:Nat) (h:i < 100) (w:World) :
  Calls prog 175 #[.int .i64 i] w fun e w'=>e=.returned (.string ⟨(Lib.decDigits i).toArray⟩)∧w' = w:=Any.internal_strconv_small Tryz.lays283 i h w
def Tryz.laysM284_ren:Go.Shelf.Ren:=⟨fun|284=>176|129=>204|317=>203|318=>205|n=>n,fun|53=>78|3=>3|212=>330|0=>0|4=>4|46=>266|5=>5|9=>9|n=>n,fun|17=>4|n=>n⟩
theorem Tryz.laysM284:Go.Proofs.LaysM.n284 prog Tryz.laysM284_ren:={
 mixed:=by kernel_rfl
 f129:=Ct func204
 f284:=Ct func176
 f317:=Ct func203
 f318:=Ct func205
 t0:=underlying0
 a0:=isAgg0
 z0:=sizeOf0
 v0:=zeroValue0
 t3:=underlying3
 a3:=isAgg3
 z3:=sizeOf3
 v3:=zeroValue3
 t4:=underlying4
 a4:=isAgg4
 z4:=sizeOf4
 v4:=zeroValue4
 t5:=underlying5
 a5:=isAgg5
 z5:=sizeOf5
 v5:=zeroValue5
 t9:=underlying9
 a9:=isAgg9
 z9:=sizeOf9
 v9:=zeroValue9
 t46:=underlying266
 a46:=isAgg266
 z46:=sizeOf266
 v46:=zeroValue266
 t53:=underlying78
 a53:=isAgg78
 z53:=sizeOf78
 v53:=zeroValue78
 t212:=underlying330
 a212:=isAgg330
 z212:=sizeOf330
 v212:=zeroValue330
 g17:=by kernel_rfl
 i0:=by kernel_rfl
 i3:=by kernel_rfl
 i4:=by kernel_rfl
 i5:=by kernel_rfl
 i9:=by kernel_rfl
 i46:=by kernel_rfl
 i53:=by kernel_rfl
 i212:=by kernel_rfl
 m17:=by kernel_rfl }
open Go.Lib in
theorem Tryz.internal_strconv_numDigits (u : Nat) (h1 : 1 ≤ u) (h2 : u < 18446744073709551616) (w : World) (htab : Lib.TabIs prog w "internal/strconv.uint64pow10" .u64 Lib.pow10Tab) :
  Calls prog 176 #[.int .u64 u] w fun e w'=>e=.returned (.int .i64 (Lib.nDigits u))∧w' = w:=Any.internal_strconv_numDigits Tryz.laysM284 u h1 h2 w htab
def Tryz.lays285_ren:Go.Shelf.Ren:=⟨fun|285=>177|n=>n,fun|37=>187|53=>78|3=>3|4=>4|51=>74|9=>9|5=>5|0=>0|n=>n,fun|n=>n⟩
theorem Tryz.lays285:Go.Proofs.Lays.n285 prog Tryz.lays285_ren:={
 mixed:=by kernel_rfl
 f285:=Ct func177
 t0:=underlying0
 a0:=isAgg0
 z0:=sizeOf0
 v0:=zeroValue0
 t3:=underlying3
 a3:=isAgg3
 z3:=sizeOf3
 v3:=zeroValue3
 t4:=underlying4
 a4:=isAgg4
 z4:=sizeOf4
 v4:=zeroValue4
 t5:=underlying5
 a5:=isAgg5
 z5:=sizeOf5
 v5:=zeroValue5
 t9:=underlying9
 a9:=isAgg9
 z9:=sizeOf9
 v9:=zeroValue9
 t37:=underlying187
 a37:=isAgg187
 z37:=sizeOf187
 v37:=zeroValue187
 t51:=underlying74
 a51:=isAgg74
 z51:=sizeOf74
 v51:=zeroValue74
 t53:=underlying78
 a53:=isAgg78
 z53:=sizeOf78
 v53:=zeroValue78 }
open Go.RowKit Go.Sort Go.Lib in
theorem Tryz.internal_strconv_formatBase10 (blk off cap:Nat) (u:Nat) (d:Array UInt8) (w:World) (hH:Holds (fun (b:UInt8)=>Value.int .u8 (b.toNat:Int)) w blk off d) (hu:u < 10 ^ d.size) (hu64:u < 18446744073709551616) (hsz:d.size < 4611686018427387904) :
  Calls prog 177 #[.slice (some ⟨blk,off,none⟩) d.size cap,.int .u64 u] w fun e w'=>
   e=.returned (.tuple #[])∧∃ (n v':Nat) (dk:Array UInt8),w' = (putRow (fun (b:UInt8)=>Value.int .u8 (b.toNat:Int)) w blk off dk).drewN n∧FmtInv d.size u 0 v' dk:=Any.internal_strconv_formatBase10 Tryz.lays285 blk off cap u d w hH hu hu64 hsz
def Tryz.laysM246_ren:Go.Shelf.Ren:=⟨fun|246=>154|283=>175|284=>176|285=>177|286=>178|129=>204|317=>203|318=>205|319=>206|320=>207|337=>232|338=>233|n=>n,fun|2=>2|3=>3|9=>9|4=>4|171=>298|0=>0|53=>78|37=>187|5=>5|173=>301|212=>330|51=>74|20=>20|213=>331|46=>266|232=>373|233=>374|n=>n,fun|17=>4|18=>7|19=>8|n=>n⟩
def Tryz.laysM173_ren:Go.Shelf.Ren:=⟨fun|173=>125|246=>154|283=>175|284=>176|285=>177|286=>178|129=>204|317=>203|318=>205|319=>206|320=>207|337=>232|338=>233|n=>n,fun|2=>2|3=>3|9=>9|4=>4|171=>298|0=>0|53=>78|37=>187|5=>5|173=>301|212=>330|51=>74|20=>20|213=>331|46=>266|232=>373|233=>374|n=>n,fun|17=>4|18=>7|19=>8|n=>n⟩
theorem Tryz.laysM173:Go.Proofs.LaysM.n173 prog Tryz.laysM173_ren:={
 mixed:=by kernel_rfl
 f129:=Ct func204
 f173:=Ct func125
 f246:=Ct func154
 f283:=Ct func175
 f284:=Ct func176
 f285:=Ct func177
 f286:=Ct func178
 f317:=Ct func203
 f318:=Ct func205
 f319:=Ct func206
 f320:=Ct func207
 f337:=Ct func232
 f338:=Ct func233
 t0:=underlying0
 a0:=isAgg0
 z0:=sizeOf0
 v0:=zeroValue0
 t2:=underlying2
 a2:=isAgg2
 z2:=sizeOf2
 v2:=zeroValue2
 t3:=underlying3
 a3:=isAgg3
 z3:=sizeOf3
 v3:=zeroValue3
 t4:=underlying4
 a4:=isAgg4
 z4:=sizeOf4
 v4:=zeroValue4
 t5:=underlying5
 a5:=isAgg5
 z5:=sizeOf5
 v5:=zeroValue5
 t9:=underlying9
 a9:=isAgg9
 z9:=sizeOf9
 v9:=zeroValue9
 t20:=underlying20
 a20:=isAgg20
 z20:=sizeOf20
 v20:=zeroValue20
 t37:=underlying187
 a37:=isAgg187
 z37:=sizeOf187
 v37:=zeroValue187
 t46:=underlying266
 a46:=isAgg266
 z46:=sizeOf266
 v46:=zeroValue266
 t51:=underlying74
 a51:=isAgg74
 z51:=sizeOf74
 v51:=zeroValue74
 t53:=underlying78
 a53:=isAgg78
 z53:=sizeOf78
 v53:=zeroValue78
 t171:=underlying298
 a171:=isAgg298
 z171:=sizeOf298
 v171:=zeroValue298
 t173:=underlying301
 a173:=isAgg301
 z173:=sizeOf301
 v173:=zeroValue301
 t212:=underlying330
 a212:=isAgg330
 z212:=sizeOf330
 v212:=zeroValue330
 t213:=underlying331
 a213:=isAgg331
 z213:=sizeOf331
 t232:=underlying373
 a232:=isAgg373
 z232:=sizeOf373
 v232:=zeroValue373
 t233:=underlying374
 a233:=isAgg374
 z233:=sizeOf374
 v233:=zeroValue374
 g17:=by kernel_rfl
 g18:=by kernel_rfl
 g19:=by kernel_rfl
 i0:=by kernel_rfl
 i2:=by kernel_rfl
 i3:=by kernel_rfl
 i4:=by kernel_rfl
 i5:=by kernel_rfl
 i9:=by kernel_rfl
 i20:=by kernel_rfl
 i37:=by kernel_rfl
 i46:=by kernel_rfl
 i51:=by kernel_rfl
 i53:=by kernel_rfl
 i171:=by kernel_rfl
 i173:=by kernel_rfl
 i212:=by kernel_rfl
 i232:=by kernel_rfl
 i233:=by kernel_rfl
 m17:=by kernel_rfl
 m18:=by kernel_rfl
 m19:=by kernel_rfl }
open Go.RowKit Go.Sort Go.Lib in
theorem Tryz.strconv_FormatInt_10 (n : Int) (h0 : -9223372036854775808 ≤ n) (h1 : n ≤ 9223372036854775807) (w : World) (htab : Lib.TabIs prog w "internal/strconv.uint64pow10" .u64 Lib.pow10Tab) :
  Calls prog 125 #[.int .i64 n,.int .i64 10] w fun e w'=>e=.returned (.string ⟨(Lib.itoa n).toArray⟩)∧∃ k os,w' = grow (w.drewN k) os:=Any.strconv_FormatInt_10 Tryz.laysM173 n h0 h1 w htab
def Tryz.laysC245_ren:Go.Shelf.Ren:=⟨fun|245=>153|279=>171|280=>172|281=>173|282=>174|316=>200|171=>202|205=>201|243=>231|246=>154|283=>175|284=>176|285=>177|286=>178|129=>204|317=>203|318=>205|319=>206|320=>207|337=>232|338=>233|n=>n,fun|9=>9|3=>3|75=>24|167=>293|4=>4|168=>294|210=>328|37=>187|0=>0|127=>316|145=>361|143=>359|2=>2|171=>298|53=>78|5=>5|173=>301|212=>330|51=>74|20=>20|213=>331|46=>266|232=>373|233=>374|80=>105|n=>n,fun|15=>2|16=>3|17=>4|18=>7|19=>8|n=>n⟩
def Tryz.laysC174_ren:Go.Shelf.Ren:=⟨fun|174=>124|247=>152|245=>153|287=>170|279=>171|280=>172|281=>173|282=>174|321=>198|322=>199|316=>200|171=>202|205=>201|243=>231|246=>154|283=>175|284=>176|285=>177|286=>178|129=>204|317=>203|318=>205|319=>206|320=>207|337=>232|338=>233|n=>n,fun|9=>9|3=>3|2=>2|75=>24|85=>240|4=>4|167=>293|5=>5|53=>78|175=>286|46=>266|168=>294|37=>187|0=>0|210=>328|21=>21|127=>316|145=>361|143=>359|171=>298|173=>301|212=>330|51=>74|20=>20|213=>331|232=>373|233=>374|80=>105|n=>n,fun|15=>2|16=>3|17=>4|18=>7|19=>8|n=>n⟩
theorem Tryz.laysC174:Go.Proofs.LaysC.n174 prog Tryz.laysC174_ren:={
 mixed:=by kernel_rfl
 f129:=Ct func204
 f171:=Ct func202
 f174:=Ct func124
 f205:=Ct func201
 f243:=Ct func231
 f245:=Ct func153
 f246:=Ct func154
 f247:=Ct func152
 f279:=Ct func171
 f280:=Ct func172
 f281:=Ct func173
 f282:=Ct func174
 f283:=Ct func175
 f284:=Ct func176
 f285:=Ct func177
 f286:=Ct func178
 f287:=Ct func170
 f316:=Ct func200
 f317:=Ct func203
 f318:=Ct func205
 f319:=Ct func206
 f320:=Ct func207
 f321:=Ct func198
 f322:=Ct func199
 f337:=Ct func232
 f338:=Ct func233
 t0:=underlying0
 a0:=isAgg0
 z0:=sizeOf0
 v0:=zeroValue0
 t2:=underlying2
 a2:=isAgg2
 z2:=sizeOf2
 v2:=zeroValue2
 t3:=underlying3
 a3:=isAgg3
 z3:=sizeOf3
 v3:=zeroValue3
 t4:=underlying4
 a4:=isAgg4
 z4:=sizeOf4
 v4:=zeroValue4
 t5:=underlying5
 a5:=isAgg5
 z5:=sizeOf5
 v5:=zeroValue5
 t9:=underlying9
 a9:=isAgg9
 z9:=sizeOf9
 v9:=zeroValue9
 t20:=underlying20
 a20:=isAgg20
 z20:=sizeOf20
 v20:=zeroValue20
 t21:=underlying21
 a21:=isAgg21
 z21:=sizeOf21
 v21:=zeroValue21
 t37:=underlying187
 a37:=isAgg187
 z37:=sizeOf187
 v37:=zeroValue187
 t46:=underlying266
 a46:=isAgg266
 z46:=sizeOf266
 v46:=zeroValue266
 t51:=underlying74
 a51:=isAgg74
 z51:=sizeOf74
 v51:=zeroValue74
 t53:=underlying78
 a53:=isAgg78
 z53:=sizeOf78
 v53:=zeroValue78
 t75:=underlying24
 a75:=isAgg24
 z75:=sizeOf24
 v75:=zeroValue24
 t85:=underlying240
 a85:=isAgg240
 z85:=sizeOf240
 v85:=zeroValue240
 t127:=underlying316
 a127:=isAgg316
 z127:=sizeOf316
 v127:=zeroValue316
 t143:=underlying359
 a143:=isAgg359
 z143:=sizeOf359
 v143:=zeroValue359
 t145:=underlying361
 a145:=isAgg361
 z145:=sizeOf361
 v145:=zeroValue361
 t167:=underlying293
 a167:=isAgg293
 z167:=sizeOf293
 v167:=zeroValue293
 t168:=underlying294
 a168:=isAgg294
 z168:=sizeOf294
 v168:=zeroValue294
 t171:=underlying298
 a171:=isAgg298
 z171:=sizeOf298
 v171:=zeroValue298
 t173:=underlying301
 a173:=isAgg301
 z173:=sizeOf301
 v173:=zeroValue301
 t175:=underlying286
 a175:=isAgg286
 z175:=sizeOf286
 v175:=zeroValue286
 t210:=underlying328
 a210:=isAgg328
 z210:=sizeOf328
 v210:=zeroValue328
 t212:=underlying330
 a212:=isAgg330
 z212:=sizeOf330
 v212:=zeroValue330
 t213:=underlying331
 a213:=isAgg331
 z213:=sizeOf331
 t232:=underlying373
 a232:=isAgg373
 z232:=sizeOf373
 v232:=zeroValue373
 t233:=underlying374
 a233:=isAgg374
 z233:=sizeOf374
 v233:=zeroValue374
 g15:=by kernel_rfl
 g16:=by kernel_rfl
 g17:=by kernel_rfl
 g18:=by kernel_rfl
 g19:=by kernel_rfl
 t80:=underlying105
 a80:=isAgg105
 z80:=sizeOf105
 v80:=zeroValue105
 i0:=by kernel_rfl
 i2:=by kernel_rfl
 i3:=by kernel_rfl
 i4:=by kernel_rfl
 i5:=by kernel_rfl
 i9:=by kernel_rfl
 i20:=by kernel_rfl
 i21:=by kernel_rfl
 i37:=by kernel_rfl
 i46:=by kernel_rfl
 i51:=by kernel_rfl
 i53:=by kernel_rfl
 i75:=by kernel_rfl
 i80:=by kernel_rfl
 i85:=by kernel_rfl
 i127:=by kernel_rfl
 i143:=by kernel_rfl
 i145:=by kernel_rfl
 i167:=by kernel_rfl
 i168:=by kernel_rfl
 i171:=by kernel_rfl
 i173:=by kernel_rfl
 i175:=by kernel_rfl
 i210:=by kernel_rfl
 i212:=by kernel_rfl
 i232:=by kernel_rfl
 i233:=by kernel_rfl
 m15:=by kernel_rfl
 m16:=by kernel_rfl
 m17:=by kernel_rfl
 m18:=by kernel_rfl
 m19:=by kernel_rfl
 c0:=by kernel_rfl
 c2:=by kernel_rfl
 c3:=by kernel_rfl
 c4:=by kernel_rfl
 c5:=by kernel_rfl
 c9:=by kernel_rfl
 c20:=by kernel_rfl
 c21:=by kernel_rfl
 c37:=by kernel_rfl
 c46:=by kernel_rfl
 c51:=by kernel_rfl
 c53:=by kernel_rfl
 c75:=by kernel_rfl
 c80:=by kernel_rfl
 c85:=by kernel_rfl
 c127:=by kernel_rfl
 c143:=by kernel_rfl
 c145:=by kernel_rfl
 c167:=by kernel_rfl
 c168:=by kernel_rfl
 c171:=by kernel_rfl
 c173:=by kernel_rfl
 c175:=by kernel_rfl
 c210:=by kernel_rfl
 c212:=by kernel_rfl
 c213:=by kernel_rfl
 c232:=by kernel_rfl
 c233:=by kernel_rfl }
open Go.RowKit in
theorem Tryz.strconv_ParseInt_10_at64_ok (s:ByteArray) (hmax:s.size≤9223372036854775806) (v:Int) (h:Lib.parseIntB 64 s.data.toList=.ok v) (w:World) :
  Calls prog 124 #[.string s,.int .i64 10,.int .i64 64] w fun e w'=>e=.returned (.tuple #[.int .i64 v,.nilIface])∧(w' = w∨∃ t,w' = Lib.bytesWorld w 5 t):=Any.strconv_ParseInt_10_at64_ok Tryz.laysC174 s hmax v h w
open Go.RowKit in
theorem Tryz.strconv_ParseInt_10_at64_syntax (s:ByteArray) (hlim:s.size≤281474976710656) (h:Lib.parseIntB 64 s.data.toList=Lib.NumEnd.syntax) (ev:Value) (w:World) (hv:w.cell? ⟨2,0,none⟩=some ev) (hev:ev=.nilIface∨∃ te pe,ev=.iface te pe) :
  Calls prog 124 #[.string s,.int .i64 10,.int .i64 64] w fun e w'=>∃ N,e=.returned (.tuple #[.int .i64 (0),.iface 294 (.pointer (some ⟨N,0,none⟩))])∧w.heap.size≤N∧w'.heap[N]? = some (.cells #[.string ⟨#[80,97,114,115,101,73,110,116]⟩,.string s,ev] 328 (0,0))∧Below w.heap.size w w':=Any.strconv_ParseInt_10_at64_syntax Tryz.laysC174 s hlim h ev w hv hev
open Go.RowKit in
theorem Tryz.strconv_ParseInt_10_at64_range (s:ByteArray) (hlim:s.size≤281474976710656) (h:Lib.parseIntB 64 s.data.toList=.range) (ev:Value) (w:World) (hv:w.cell? ⟨3,0,none⟩=some ev) (hev:ev=.nilIface∨∃ te pe,ev=.iface te pe) :
  Calls prog 124 #[.string s,.int .i64 10,.int .i64 64] w fun e w'=>∃ N,e=.returned (.tuple #[.int .i64 (Lib.intSat 64 s.data.toList),.iface 294 (.pointer (some ⟨N,0,none⟩))])∧w.heap.size≤N∧w'.heap[N]? = some (.cells #[.string ⟨#[80,97,114,115,101,73,110,116]⟩,.string s,ev] 328 (0,0))∧Below w.heap.size w w':=Any.strconv_ParseInt_10_at64_range Tryz.laysC174 s hlim h ev w hv hev
def Tryz.laysPu14_ren:Go.Shelf.Ren:=⟨fun|14=>166|16=>170|17=>153|19=>198|20=>199|21=>171|22=>172|23=>173|24=>174|25=>200|27=>202|26=>201|28=>231|29=>154|30=>175|31=>176|32=>177|33=>178|35=>204|34=>203|36=>205|37=>206|38=>207|39=>232|40=>233|n=>n,fun|9=>9|3=>3|22=>78|24=>24|25=>286|4=>4|34=>293|5=>5|36=>266|37=>187|0=>0|39=>294|21=>21|44=>328|47=>316|50=>361|48=>359|2=>2|52=>298|55=>301|59=>330|60=>74|20=>20|61=>331|65=>373|66=>374|67=>105|n=>n,fun|0=>2|1=>3|2=>4|3=>7|4=>8|n=>n⟩
theorem Tryz.laysPu14:Go.Proofs.LaysPu.n14 prog Tryz.laysPu14_ren:={
 mixed:=by kernel_rfl
 f14:=Ct func166
 f16:=Ct func170
 f17:=Ct func153
 f19:=Ct func198
 f20:=Ct func199
 f21:=Ct func171
 f22:=Ct func172
 f23:=Ct func173
 f24:=Ct func174
 f25:=Ct func200
 f26:=Ct func201
 f27:=Ct func202
 f28:=Ct func231
 f29:=Ct func154
 f30:=Ct func175
 f31:=Ct func176
 f32:=Ct func177
 f33:=Ct func178
 f34:=Ct func203
 f35:=Ct func204
 f36:=Ct func205
 f37:=Ct func206
 f38:=Ct func207
 f39:=Ct func232
 f40:=Ct func233
 t0:=underlying0
 a0:=isAgg0
 z0:=sizeOf0
 v0:=zeroValue0
 i0:=by kernel_rfl
 t2:=underlying2
 a2:=isAgg2
 z2:=sizeOf2
 v2:=zeroValue2
 i2:=by kernel_rfl
 t3:=underlying3
 a3:=isAgg3
 z3:=sizeOf3
 v3:=zeroValue3
 i3:=by kernel_rfl
 t4:=underlying4
 a4:=isAgg4
 z4:=sizeOf4
 v4:=zeroValue4
 i4:=by kernel_rfl
 t5:=underlying5
 a5:=isAgg5
 z5:=sizeOf5
 v5:=zeroValue5
 i5:=by kernel_rfl
 t9:=underlying9
 a9:=isAgg9
 z9:=sizeOf9
 v9:=zeroValue9
 i9:=by kernel_rfl
 t20:=underlying20
 a20:=isAgg20
 z20:=sizeOf20
 v20:=zeroValue20
 i20:=by kernel_rfl
 t21:=underlying21
 a21:=isAgg21
 z21:=sizeOf21
 v21:=zeroValue21
 i21:=by kernel_rfl
 t22:=underlying78
 a22:=isAgg78
 z22:=sizeOf78
 v22:=zeroValue78
 i22:=by kernel_rfl
 t24:=underlying24
 a24:=isAgg24
 z24:=sizeOf24
 v24:=zeroValue24
 i24:=by kernel_rfl
 t25:=underlying286
 a25:=isAgg286
 z25:=sizeOf286
 v25:=zeroValue286
 i25:=by kernel_rfl
 t34:=underlying293
 a34:=isAgg293
 z34:=sizeOf293
 v34:=zeroValue293
 i34:=by kernel_rfl
 c34:=by kernel_rfl
 t36:=underlying266
 a36:=isAgg266
 z36:=sizeOf266
 v36:=zeroValue266
 i36:=by kernel_rfl
 t37:=underlying187
 a37:=isAgg187
 z37:=sizeOf187
 v37:=zeroValue187
 i37:=by kernel_rfl
 t39:=underlying294
 a39:=isAgg294
 z39:=sizeOf294
 v39:=zeroValue294
 i39:=by kernel_rfl
 t44:=underlying328
 a44:=isAgg328
 z44:=sizeOf328
 v44:=zeroValue328
 i44:=by kernel_rfl
 t47:=underlying316
 a47:=isAgg316
 z47:=sizeOf316
 v47:=zeroValue316
 i47:=by kernel_rfl
 t48:=underlying359
 a48:=isAgg359
 z48:=sizeOf359
 v48:=zeroValue359
 i48:=by kernel_rfl
 t50:=underlying361
 a50:=isAgg361
 z50:=sizeOf361
 v50:=zeroValue361
 i50:=by kernel_rfl
 t52:=underlying298
 a52:=isAgg298
 z52:=sizeOf298
 v52:=zeroValue298
 i52:=by kernel_rfl
 t55:=underlying301
 a55:=isAgg301
 z55:=sizeOf301
 v55:=zeroValue301
 i55:=by kernel_rfl
 t59:=underlying330
 a59:=isAgg330
 z59:=sizeOf330
 v59:=zeroValue330
 i59:=by kernel_rfl
 t60:=underlying74
 a60:=isAgg74
 z60:=sizeOf74
 v60:=zeroValue74
 i60:=by kernel_rfl
 t61:=underlying331
 a61:=isAgg331
 z61:=sizeOf331
 t65:=underlying373
 a65:=isAgg373
 z65:=sizeOf373
 v65:=zeroValue373
 i65:=by kernel_rfl
 t66:=underlying374
 a66:=isAgg374
 z66:=sizeOf374
 v66:=zeroValue374
 i66:=by kernel_rfl
 t67:=underlying105
 a67:=isAgg105
 z67:=sizeOf105
 v67:=zeroValue105
 i67:=by kernel_rfl
 g0:=by kernel_rfl
 m0:=by kernel_rfl
 g1:=by kernel_rfl
 m1:=by kernel_rfl
 g2:=by kernel_rfl
 m2:=by kernel_rfl
 g3:=by kernel_rfl
 m3:=by kernel_rfl
 g4:=by kernel_rfl
 m4:=by kernel_rfl }
open Go.RowKit in
theorem Tryz.strconv_ParseUint_10_at64_ok (s:ByteArray) (hmax:s.size≤9223372036854775806) (u:Nat) (h:Lib.parseUintB 64 s.data.toList=.ok u) (w:World) :
  Calls prog 166 #[.string s,.int .i64 10,.int .i64 64] w fun e w'=>e=.returned (.tuple #[.int .u64 u,.nilIface])∧(w' = w∨w' = Lib.bytesWorld w 5 s):=Any.strconv_ParseUint_10_at64_ok Tryz.laysPu14 s hmax u h w
open Go.RowKit in
theorem Tryz.strconv_ParseUint_10_at64_syntax (s:ByteArray) (hlim:s.size≤281474976710656) (h:Lib.parseUintB 64 s.data.toList=Lib.NumEnd.syntax) (ev:Value) (w:World) (hv:w.cell? ⟨2,0,none⟩=some ev) (hev:ev=.nilIface∨∃ te pe,ev=.iface te pe) :
  Calls prog 166 #[.string s,.int .i64 10,.int .i64 64] w fun e w'=>∃ N,e=.returned (.tuple #[.int .u64 0,.iface 294 (.pointer (some ⟨N,0,none⟩))])∧w.heap.size≤N∧w'.heap[N]? = some (.cells #[.string ⟨#[80,97,114,115,101,85,105,110,116]⟩,.string s,ev] 328 (0,0))∧Below w.heap.size w w':=Any.strconv_ParseUint_10_at64_syntax Tryz.laysPu14 s hlim h ev w hv hev
open Go.RowKit in
theorem Tryz.strconv_ParseUint_10_at64_range (s:ByteArray) (hlim:s.size≤281474976710656) (h:Lib.parseUintB 64 s.data.toList=.range) (ev:Value) (w:World) (hv:w.cell? ⟨3,0,none⟩=some ev) (hev:ev=.nilIface∨∃ te pe,ev=.iface te pe) :
  Calls prog 166 #[.string s,.int .i64 10,.int .i64 64] w fun e w'=>∃ N,e=.returned (.tuple #[.int .u64 18446744073709551615,.iface 294 (.pointer (some ⟨N,0,none⟩))])∧w.heap.size≤N∧w'.heap[N]? = some (.cells #[.string ⟨#[80,97,114,115,101,85,105,110,116]⟩,.string s,ev] 328 (0,0))∧Below w.heap.size w w':=Any.strconv_ParseUint_10_at64_range Tryz.laysPu14 s hlim h ev w hv hev
def Tryz.laysGw17_ren:Go.Shelf.Ren:=⟨fun|17=>188|15=>216|20=>237|n=>n,fun|9=>9|23=>170|4=>4|3=>3|0=>0|21=>21|n=>n,fun|n=>n⟩
theorem Tryz.laysGw17:Go.Proofs.LaysGw.n17 prog Tryz.laysGw17_ren:={
 mixed:=by kernel_rfl
 f15:=Ct func216
 f17:=Ct func188
 f20:=Ct func237
 t0:=underlying0
 a0:=isAgg0
 z0:=sizeOf0
 v0:=zeroValue0
 i0:=by kernel_rfl
 t3:=underlying3
 a3:=isAgg3
 z3:=sizeOf3
 v3:=zeroValue3
 i3:=by kernel_rfl
 t4:=underlying4
 a4:=isAgg4
 z4:=sizeOf4
 v4:=zeroValue4
 i4:=by kernel_rfl
 t9:=underlying9
 a9:=isAgg9
 z9:=sizeOf9
 v9:=zeroValue9
 i9:=by kernel_rfl
 t21:=underlying21
 a21:=isAgg21
 z21:=sizeOf21
 v21:=zeroValue21
 i21:=by kernel_rfl
 t23:=underlying170
 a23:=isAgg170
 z23:=sizeOf170
 v23:=zeroValue170
 i23:=by kernel_rfl }
open Go.RowKit Go.Lib in
theorem Tryz.strings_ContainsFunc (g:Nat) (lb:Array Value) (eg:∀ args w,(callFunc g args).run prog w=.ok (.enter g args) w) (p:Nat→Bool) (s:ByteArray) (w:World) (hp:PredAt prog g lb encR p w) :
  Calls prog 188 #[.string s,.func (.func g) #[] lb] w fun e w'=>e=.returned (.bool (decide (0≤Lib.idxFunc p true s)))∧Below w.heap.size w w':=Any.strings_ContainsFunc Tryz.laysGw17 g lb eg p s w hp
def Tryz.lays99_ren:Go.Shelf.Ren:=⟨fun|99=>108|206=>144|n=>n,fun|9=>9|4=>4|3=>3|n=>n,fun|n=>n⟩
theorem Tryz.lays99:Go.Proofs.Lays.n99 prog Tryz.lays99_ren:={
 mixed:=by kernel_rfl
 f99:=Ct func108
 f206:=Ct func144
 t3:=underlying3
 a3:=isAgg3
 z3:=sizeOf3
 v3:=zeroValue3
 t4:=underlying4
 a4:=isAgg4
 z4:=sizeOf4
 v4:=zeroValue4
 t9:=underlying9
 a9:=isAgg9
 z9:=sizeOf9
 v9:=zeroValue9 }
open Go.RowKit Go.Lib in
theorem Tryz.strings_HasPrefix (s p:ByteArray) (w:World) :
  Calls prog 108 #[.string s,.string p] w fun e w'=>e=.returned (.bool (Lib.hasPrefix s.data.toList p.data.toList))∧w' = w:=Any.strings_HasPrefix Tryz.lays99 s p w
def Tryz.lays151_ren:Go.Shelf.Ren:=⟨fun|151=>116|152=>148|137=>162|119=>163|224=>164|225=>165|217=>189|266=>217|n=>n,fun|9=>9|21=>21|4=>4|3=>3|5=>5|0=>0|46=>266|n=>n,fun|n=>n⟩
theorem Tryz.lays151:Go.Proofs.Lays.n151 prog Tryz.lays151_ren:={
 mixed:=by kernel_rfl
 f119:=Ct func163
 f137:=Ct func162
 f151:=Ct func116
 f152:=Ct func148
 f217:=Ct func189
 f224:=Ct func164
 f225:=Ct func165
 f266:=Ct func217
 t0:=underlying0
 a0:=isAgg0
 z0:=sizeOf0
 v0:=zeroValue0
 t3:=underlying3
 a3:=isAgg3
 z3:=sizeOf3
 v3:=zeroValue3
 t4:=underlying4
 a4:=isAgg4
 z4:=sizeOf4
 v4:=zeroValue4
 t5:=underlying5
 a5:=isAgg5
 z5:=sizeOf5
 v5:=zeroValue5
 t9:=underlying9
 a9:=isAgg9
 z9:=sizeOf9
 v9:=zeroValue9
 t21:=underlying21
 a21:=isAgg21
 z21:=sizeOf21
 v21:=zeroValue21
 t46:=underlying266
 a46:=isAgg266
 z46:=sizeOf266
 v46:=zeroValue266 }
open Go.RowKit Go.Lib in
theorem Tryz.strings_ContainsRune_ascii (s:ByteArray) (r:Int) (w:World) (h0:0≤r) (h1:r < 128) :
  Calls prog 116 #[.string s,.int .i32 r] w fun e w'=>e=.returned (.bool (decide (0≤Lib.indexByte s.data.toList r.toNat.toUInt8)))∧w' = w:=Any.strings_ContainsRune_ascii Tryz.lays151 s r w h0 h1
def Tryz.lays264_ren:Go.Shelf.Ren:=⟨fun|264=>242|n=>n,fun|53=>78|46=>266|n=>n,fun|n=>n⟩
theorem Tryz.lays264:Go.Proofs.Lays.n264 prog Tryz.lays264_ren:={
 mixed:=by kernel_rfl
 f264:=Ct func242
 t46:=underlying266
 a46:=isAgg266
 z46:=sizeOf266
 v46:=zeroValue266
 t53:=underlying78
 a53:=isAgg78
 z53:=sizeOf78
 v53:=zeroValue78 }
open Go.RowKit Go.Lib in
theorem Tryz.bits_Mul64 (x y:Nat) (hx:x < 18446744073709551616) (hy:y < 18446744073709551616) (w:World) :
  Calls prog 242 #[.int .u64 x,.int .u64 y] w fun e w'=>e=.returned (.tuple #[.int .u64 ((x*y / 18446744073709551616:Nat):Int),.int .u64 ((x*y % 18446744073709551616:Nat):Int)])∧w' = w:=Any.bits_Mul64 Tryz.lays264 x y hx hy w
def Tryz.lays105_ren:Go.Shelf.Ren:=⟨fun|105=>195|212=>225|99=>108|165=>226|166=>227|170=>228|169=>161|263=>241|264=>242|206=>144|240=>186|241=>243|276=>214|277=>250|n=>n,fun|9=>9|3=>3|4=>4|20=>20|0=>0|46=>266|109=>353|5=>5|72=>281|76=>355|51=>74|146=>367|53=>78|148=>369|70=>279|37=>187|75=>24|127=>316|164=>152|80=>105|n=>n,fun|n=>n⟩
theorem Tryz.lays105:Go.Proofs.Lays.n105 prog Tryz.lays105_ren:={
 mixed:=by kernel_rfl
 f99:=Ct func108
 f105:=Ct func195
 f165:=Ct func226
 f166:=Ct func227
 f169:=Ct func161
 f170:=Ct func228
 f206:=Ct func144
 f212:=Ct func225
 f240:=Ct func186
 f241:=Ct func243
 f263:=Ct func241
 f264:=Ct func242
 f276:=Ct func214
 f277:=Ct func250
 t0:=underlying0
 a0:=isAgg0
 z0:=sizeOf0
 v0:=zeroValue0
 t3:=underlying3
 a3:=isAgg3
 z3:=sizeOf3
 v3:=zeroValue3
 t4:=underlying4
 a4:=isAgg4
 z4:=sizeOf4
 v4:=zeroValue4
 t5:=underlying5
 a5:=isAgg5
 z5:=sizeOf5
 v5:=zeroValue5
 t9:=underlying9
 a9:=isAgg9
 z9:=sizeOf9
 v9:=zeroValue9
 t20:=underlying20
 a20:=isAgg20
 z20:=sizeOf20
 v20:=zeroValue20
 t37:=underlying187
 a37:=isAgg187
 z37:=sizeOf187
 v37:=zeroValue187
 t46:=underlying266
 a46:=isAgg266
 z46:=sizeOf266
 v46:=zeroValue266
 t51:=underlying74
 a51:=isAgg74
 z51:=sizeOf74
 v51:=zeroValue74
 t53:=underlying78
 a53:=isAgg78
 z53:=sizeOf78
 v53:=zeroValue78
 t70:=underlying279
 a70:=isAgg279
 z70:=sizeOf279
 v70:=zeroValue279
 t72:=underlying281
 a72:=isAgg281
 z72:=sizeOf281
 v72:=zeroValue281
 t75:=underlying24
 a75:=isAgg24
 z75:=sizeOf24
 v75:=zeroValue24
 t76:=underlying355
 a76:=isAgg355
 z76:=sizeOf355
 v76:=zeroValue355
 t109:=underlying353
 a109:=isAgg353
 z109:=sizeOf353
 v109:=zeroValue353
 t127:=underlying316
 a127:=isAgg316
 z127:=sizeOf316
 v127:=zeroValue316
 t146:=underlying367
 a146:=isAgg367
 z146:=sizeOf367
 v146:=zeroValue367
 t148:=underlying369
 a148:=isAgg369
 z148:=sizeOf369
 v148:=zeroValue369
 t164:=underlying152
 a164:=isAgg152
 z164:=sizeOf152
 v164:=zeroValue152 }
theorem Tryz.Builder_Extra_105:Builder.Extra prog Tryz.lays105_ren:={
 sizeBuilder:=by kernel_rfl
 liesBuilder:=by kernel_rfl
 t5:=underlying5
 a5:=isAgg5
 z5:=sizeOf5
 v5:=zeroValue5
 infoByte:=by kernel_rfl
 cellsByte:=by kernel_rfl
 sizeByte:=by kernel_rfl
 neB5:=by decide }
open Go.RowKit Go.Lib in
theorem Tryz.strings_Repeat (s:ByteArray) (c:Nat) (w:World) (hc:c≤9223372036854775807) (hlen:s.size*c≤140737488355328) :
  Calls prog 195 #[.string s,.int .i64 c] w fun e w'=>e=.returned (.string ⟨(Lib.repeatL s.data.toList c).toArray⟩)∧Below w.heap.size w w':=Any.strings_Repeat Tryz.lays105 Tryz.Builder_Extra_105 s c w hc hlen
end Go.Proofs
namespace Go.Proofs
open Go.Proofs.Tryz
open Go.Shelf
def Tryz.lays196_ren:Go.Shelf.Ren:=⟨fun|196=>187|259=>215|n=>n,fun|9=>9|4=>4|3=>3|5=>5|12=>12|119=>341|0=>0|46=>266|139=>344|138=>343|53=>78|n=>n,fun|3=>5|4=>6|n=>n⟩
theorem Tryz.lays196:Go.Proofs.Lays.n196 prog Tryz.lays196_ren:={
 mixed:=by kernel_rfl
 f196:=func187.trans (congrArg some (by kernel_rfl))
 f259:=func215.trans (congrArg some (by kernel_rfl))
 t0:=underlying0
 a0:=isAgg0
 z0:=sizeOf0
 v0:=zeroValue0
 t3:=underlying3
 a3:=isAgg3
 z3:=sizeOf3
 v3:=zeroValue3
 t4:=underlying4
 a4:=isAgg4
 z4:=sizeOf4
 v4:=zeroValue4
 t5:=underlying5
 a5:=isAgg5
 z5:=sizeOf5
 v5:=zeroValue5
 t9:=underlying9
 a9:=isAgg9
 z9:=sizeOf9
 v9:=zeroValue9
 t12:=underlying12
 a12:=isAgg12
 z12:=sizeOf12
 v12:=zeroValue12
 t46:=underlying266
 a46:=isAgg266
 z46:=sizeOf266
 v46:=zeroValue266
 t53:=underlying78
 a53:=isAgg78
 z53:=sizeOf78
 v53:=zeroValue78
 t119:=underlying341
 a119:=isAgg341
 z119:=sizeOf341
 t138:=underlying343
 a138:=isAgg343
 z138:=sizeOf343
 v138:=zeroValue343
 t139:=underlying344
 a139:=isAgg344
 z139:=sizeOf344
 v139:=zeroValue344
 g3:=by kernel_rfl
 g4:=by kernel_rfl }
end Go.Proofs
