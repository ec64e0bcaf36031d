/-
  The library's contracts at this program, laid by the kit's tools.
-/
import Derived.Shelf.Strings.Builder1
import Derived.Shelf.Strings.Builder2
import Derived.Shelf.Strings.Trim
import Derived.Shelf.Small.Utf8
import Derived.Shelf.Small.Strs
import Derived.Shelf.Small.Wraps
import Derived.Shelf.Strings.BuilderF
import Derived.Shelf.Strings.BuilderK
import Derived.Shelf.Strings.Builder2Cap
import Derived.Shelf.Strconv.Itoa0
import Derived.Shelf.Strconv.Itoa1
import Derived.Shelf.LaysM
import Derived.Shelf.Strconv.Itoa2
import Derived.Shelf.Strconv.Itoa3
import Derived.Shelf.Strconv.Itoa4
import Derived.Shelf.Strconv.ParseIntEmpty
import Derived.Shelf.Strconv.Clone
import Derived.Shelf.Strconv.SyntaxError
import Derived.Shelf.LaysC
import Derived.Shelf.Strconv.ToError
import Derived.Shelf.Strconv.Lower
import Derived.Shelf.Strconv.ParseUint10
import Derived.Shelf.Strconv.ParseUint10Empty
import Derived.Shelf.Strconv.ParseUint10Any
import Derived.Shelf.Strconv.ParseInt10
import Derived.Shelf.Strconv.RangeError
import Derived.Shelf.Strconv.ToErrorRange
import Derived.Shelf.Strconv.ParseUintEmpty
import Derived.Shelf.Strconv.ParseUint10b64
import Derived.Shelf.Strconv.ParseUint10b32
import Derived.Shelf.Strconv.ParseUint10b16
import Derived.Shelf.Strconv.ParseUint10b8
import Derived.Shelf.Strconv.ParseUint10At
import Derived.Shelf.Strconv.ParseInt10At64
import Derived.Shelf.Strconv.ParseInt10At32
import Derived.Shelf.Strconv.ParseInt10At16
import Derived.Shelf.Strconv.ParseInt10At8
import Derived.Shelf.Strconv.ParseInt10All
import Derived.Shelf.Strconv.ParseIntPublic10
import Derived.Shelf.Strconv.ErrVarParseInt
import Derived.Ground.MpProg
import Derived.Shelf.Pu.ParseUintPublic10
import Derived.Shelf.Pu.ErrVarParseUint
import Derived.Shelf.Strings.Search1
import Derived.Shelf.GgClosure.StringsIndexFunc
import Derived.Ground.GgwProg
import Derived.Shelf.GgClosure.StringsIndexFuncTop
import Derived.Shelf.GgClosure.StringsRunes
import Derived.Shelf.Strings.Prefix
import Derived.Shelf.Unicode.Decode
import Derived.Shelf.Strings.Runes
import Derived.Shelf.Strings.AsciiSet
import Derived.Shelf.Bits.Mul64
import Derived.Shelf.Strings.Repeat
import Derived.Shelf.Unicode.DecodeSlow
import Derived.Shelf.Unicode.DecodeAny
import Derived.Shelf.Unicode.DecodeLast
import Derived.Shelf.Strings.FuncGrows
import Derived.Shelf.Strings.BuilderCap
import Derived.Ground.Names2Prog
import Derived.Shelf.Slices.Clone
import Derived.Test.YtjgjckipfkkgiaaGreatDoorProg
import Derived.Ground.NamesProg
import Derived.Shelf.Unicode.ValidAny
namespace Go.Proofs
open Go.Proofs.Tryz
theorem Ct {α:Type} {x:Option α} {a b:α} (h:x=some a) (e:a=b:=by kernel_rfl):x=some b:=h.trans (congrArg some e)
open Go.Shelf
def Tryz.lays169_ren:Go.Shelf.Ren:=⟨fun|169=>182|n=>n,fun|70=>285|9=>9|0=>0|72=>287|37=>227|127=>315|3=>3|5=>5|n=>n,fun|n=>n⟩
theorem Tryz.lays169:Go.Proofs.Lays.n169 prog Tryz.lays169_ren:={
 mixed:=by kernel_rfl
 f169:=Ct func182
 t0:=underlying0
 a0:=isAgg0
 z0:=sizeOf0
 v0:=zeroValue0
 t3:=underlying3
 a3:=isAgg3
 z3:=sizeOf3
 v3:=zeroValue3
 t9:=underlying9
 a9:=isAgg9
 z9:=sizeOf9
 v9:=zeroValue9
 t37:=underlying227
 a37:=isAgg227
 z37:=sizeOf227
 v37:=zeroValue227
 t70:=underlying285
 a70:=isAgg285
 z70:=sizeOf285
 v70:=zeroValue285
 t72:=underlying287
 a72:=isAgg287
 z72:=sizeOf287
 v72:=zeroValue287
 t127:=underlying315
 a127:=isAgg315
 z127:=sizeOf315
 v127:=zeroValue315 }
theorem Tryz.Builder_Extra_169:Builder.Extra prog Tryz.lays169_ren:={
 sizeBuilder:=by kernel_rfl
 liesBuilder:=by kernel_rfl
 t5:=underlying5
 a5:=isAgg5
 z5:=sizeOf5
 v5:=zeroValue5
 infoByte:=by kernel_rfl
 cellsByte:=by kernel_rfl
 sizeByte:=by kernel_rfl
 neB5:=by decide }
def Tryz.lays161_ren:Go.Shelf.Ren:=⟨fun|161=>211|231=>237|227=>238|233=>239|235=>240|228=>260|197=>261|151=>116|260=>273|152=>156|137=>183|119=>184|224=>185|225=>186|217=>207|266=>236|n=>n,fun|9=>9|4=>4|3=>3|5=>5|117=>355|116=>354|0=>0|124=>358|105=>375|21=>21|119=>347|46=>258|139=>350|138=>349|n=>n,fun|3=>5|4=>6|n=>n⟩
theorem Tryz.lays161:Go.Proofs.Lays.n161 prog Tryz.lays161_ren:={
 mixed:=by kernel_rfl
 f119:=Ct func184
 f137:=Ct func183
 f151:=Ct func116
 f152:=Ct func156
 f161:=Ct func211
 f197:=Ct func261
 f217:=Ct func207
 f224:=Ct func185
 f225:=Ct func186
 f227:=Ct func238
 f228:=Ct func260
 f231:=Ct func237
 f233:=Ct func239
 f235:=Ct func240
 f260:=Ct func273
 f266:=Ct func236
 t0:=underlying0
 a0:=isAgg0
 z0:=sizeOf0
 v0:=zeroValue0
 t3:=underlying3
 a3:=isAgg3
 z3:=sizeOf3
 v3:=zeroValue3
 t4:=underlying4
 a4:=isAgg4
 z4:=sizeOf4
 v4:=zeroValue4
 t5:=underlying5
 a5:=isAgg5
 z5:=sizeOf5
 v5:=zeroValue5
 t9:=underlying9
 a9:=isAgg9
 z9:=sizeOf9
 v9:=zeroValue9
 t21:=underlying21
 a21:=isAgg21
 z21:=sizeOf21
 v21:=zeroValue21
 t46:=underlying258
 a46:=isAgg258
 z46:=sizeOf258
 v46:=zeroValue258
 t105:=underlying375
 a105:=isAgg375
 z105:=sizeOf375
 v105:=zeroValue375
 t116:=underlying354
 a116:=isAgg354
 z116:=sizeOf354
 t117:=underlying355
 a117:=isAgg355
 z117:=sizeOf355
 v117:=zeroValue355
 t119:=underlying347
 a119:=isAgg347
 z119:=sizeOf347
 t124:=underlying358
 a124:=isAgg358
 z124:=sizeOf358
 v124:=zeroValue358
 t138:=underlying349
 a138:=isAgg349
 z138:=sizeOf349
 v138:=zeroValue349
 t139:=underlying350
 a139:=isAgg350
 z139:=sizeOf350
 v139:=zeroValue350
 g3:=by kernel_rfl
 g4:=by kernel_rfl }
open Go.RowKit in
theorem Tryz.strings_TrimLeft_one (s:ByteArray) (c:UInt8) (hc:c.toNat < 128) (w:World) :
  Calls prog 211 #[.string s,.string ⟨#[c]⟩] w fun e w'=>e=.returned (.string ⟨(Lib.trimLeftB s.data.toList c).toArray⟩)∧w' = w:=Any.strings_TrimLeft_one Tryz.lays161 s c hc w
def Tryz.lays162_ren:Go.Shelf.Ren:=⟨fun|162=>212|232=>241|227=>238|234=>242|236=>243|228=>260|271=>262|151=>116|120=>274|197=>261|152=>156|260=>273|137=>183|119=>184|224=>185|225=>186|217=>207|266=>236|n=>n,fun|9=>9|4=>4|3=>3|5=>5|117=>355|116=>354|0=>0|124=>358|21=>21|105=>375|46=>258|119=>347|139=>350|138=>349|n=>n,fun|3=>5|4=>6|n=>n⟩
theorem Tryz.lays162:Go.Proofs.Lays.n162 prog Tryz.lays162_ren:={
 mixed:=by kernel_rfl
 f119:=Ct func184
 f120:=Ct func274
 f137:=Ct func183
 f151:=Ct func116
 f152:=Ct func156
 f162:=Ct func212
 f197:=Ct func261
 f217:=Ct func207
 f224:=Ct func185
 f225:=Ct func186
 f227:=Ct func238
 f228:=Ct func260
 f232:=Ct func241
 f234:=Ct func242
 f236:=Ct func243
 f260:=Ct func273
 f266:=Ct func236
 f271:=Ct func262
 t0:=underlying0
 a0:=isAgg0
 z0:=sizeOf0
 v0:=zeroValue0
 t3:=underlying3
 a3:=isAgg3
 z3:=sizeOf3
 v3:=zeroValue3
 t4:=underlying4
 a4:=isAgg4
 z4:=sizeOf4
 v4:=zeroValue4
 t5:=underlying5
 a5:=isAgg5
 z5:=sizeOf5
 v5:=zeroValue5
 t9:=underlying9
 a9:=isAgg9
 z9:=sizeOf9
 v9:=zeroValue9
 t21:=underlying21
 a21:=isAgg21
 z21:=sizeOf21
 v21:=zeroValue21
 t46:=underlying258
 a46:=isAgg258
 z46:=sizeOf258
 v46:=zeroValue258
 t105:=underlying375
 a105:=isAgg375
 z105:=sizeOf375
 v105:=zeroValue375
 t116:=underlying354
 a116:=isAgg354
 z116:=sizeOf354
 t117:=underlying355
 a117:=isAgg355
 z117:=sizeOf355
 v117:=zeroValue355
 t119:=underlying347
 a119:=isAgg347
 z119:=sizeOf347
 t124:=underlying358
 a124:=isAgg358
 z124:=sizeOf358
 v124:=zeroValue358
 t138:=underlying349
 a138:=isAgg349
 z138:=sizeOf349
 v138:=zeroValue349
 t139:=underlying350
 a139:=isAgg350
 z139:=sizeOf350
 v139:=zeroValue350
 g3:=by kernel_rfl
 g4:=by kernel_rfl }
open Go.RowKit in
theorem Tryz.strings_TrimRight_one (s:ByteArray) (c:UInt8) (hc:c.toNat < 128) (w:World) (hs:s.size≤9223372036854775807) :
  Calls prog 212 #[.string s,.string ⟨#[c]⟩] w fun e w'=>e=.returned (.string ⟨(Lib.trimRightB s.data.toList c).toArray⟩)∧w' = w:=Any.strings_TrimRight_one Tryz.lays162 s c hc w hs
def Tryz.lays118_ren:Go.Shelf.Ren:=⟨fun|118=>109|n=>n,fun|21=>21|3=>3|4=>4|n=>n,fun|n=>n⟩
theorem Tryz.lays118:Go.Proofs.Lays.n118 prog Tryz.lays118_ren:={
 mixed:=by kernel_rfl
 f118:=Ct func109
 t3:=underlying3
 a3:=isAgg3
 z3:=sizeOf3
 v3:=zeroValue3
 t4:=underlying4
 a4:=isAgg4
 z4:=sizeOf4
 v4:=zeroValue4
 t21:=underlying21
 a21:=isAgg21
 z21:=sizeOf21
 v21:=zeroValue21 }
theorem Tryz.utf8_RuneLen (r:Int) (w:World) :
  Calls prog 109 #[.int .i32 r] w fun e w'=>e=.returned (.int .i64 (Lib.runeLen r))∧w' = w:=Any.utf8_RuneLen Tryz.lays118 r w
def Tryz.lays119_ren:Go.Shelf.Ren:=⟨fun|119=>184|n=>n,fun|21=>21|4=>4|n=>n,fun|n=>n⟩
theorem Tryz.lays119:Go.Proofs.Lays.n119 prog Tryz.lays119_ren:={
 mixed:=by kernel_rfl
 f119:=Ct func184
 t4:=underlying4
 a4:=isAgg4
 z4:=sizeOf4
 v4:=zeroValue4
 t21:=underlying21
 a21:=isAgg21
 z21:=sizeOf21
 v21:=zeroValue21 }
theorem Tryz.utf8_ValidRune (r:Int) (w:World) :
  Calls prog 184 #[.int .i32 r] w fun e w'=>e=.returned (.bool (Lib.validRune r))∧w' = w:=Any.utf8_ValidRune Tryz.lays119 r w
def Tryz.lays137_ren:Go.Shelf.Ren:=⟨fun|137=>183|217=>207|266=>236|n=>n,fun|9=>9|5=>5|3=>3|n=>n,fun|n=>n⟩
theorem Tryz.lays137:Go.Proofs.Lays.n137 prog Tryz.lays137_ren:={
 mixed:=by kernel_rfl
 f137:=Ct func183
 f217:=Ct func207
 f266:=Ct func236
 t3:=underlying3
 a3:=isAgg3
 z3:=sizeOf3
 v3:=zeroValue3
 t5:=underlying5
 a5:=isAgg5
 z5:=sizeOf5
 v5:=zeroValue5
 t9:=underlying9
 a9:=isAgg9
 z9:=sizeOf9
 v9:=zeroValue9 }
open Go.RowKit in
theorem Tryz.strings_IndexByte (s:ByteArray) (c:Int) (w:World) :
  Calls prog 183 #[.string s,.int .u8 c] w fun e w'=>e=.returned (.int .i64 (Lib.indexByte s.data.toList c.toNat.toUInt8))∧w' = w:=Any.strings_IndexByte Tryz.lays137 s c w
def Tryz.lays210_ren:Go.Shelf.Ren:=⟨fun|210=>209|206=>152|n=>n,fun|9=>9|4=>4|3=>3|n=>n,fun|n=>n⟩
def Tryz.lays103_ren:Go.Shelf.Ren:=⟨fun|103=>189|210=>209|206=>152|n=>n,fun|9=>9|4=>4|24=>295|3=>3|n=>n,fun|n=>n⟩
theorem Tryz.lays103:Go.Proofs.Lays.n103 prog Tryz.lays103_ren:={
 mixed:=by kernel_rfl
 f103:=Ct func189
 f206:=Ct func152
 f210:=Ct func209
 t3:=underlying3
 a3:=isAgg3
 z3:=sizeOf3
 v3:=zeroValue3
 t4:=underlying4
 a4:=isAgg4
 z4:=sizeOf4
 v4:=zeroValue4
 t9:=underlying9
 a9:=isAgg9
 z9:=sizeOf9
 v9:=zeroValue9
 t24:=underlying295
 a24:=isAgg295
 z24:=sizeOf295
 v24:=zeroValue295 }
open Go.RowKit in
theorem Tryz.strings_CutPrefix (s p:ByteArray) (w:World) :
  Calls prog 189 #[.string s,.string p] w fun e w'=>e=.returned (.tuple #[.string ⟨(Lib.trimPrefix s.data.toList p.data.toList).toArray⟩,.bool (Lib.hasPrefix s.data.toList p.data.toList)])∧w' = w:=Any.strings_CutPrefix Tryz.lays103 s p w
open Go.RowKit in
theorem Tryz.Builder_String_any_f (B b:Nat) (l:List UInt8) (w:World) (h:Lib.IsBuilderF 287 5 B b (Lib.byteCells l) w) (hBw:B≤w.heap.size) :
  Calls prog 182 #[.pointer (some ⟨b,0,none⟩)] w fun e w'=>e=.returned (.string ⟨l.toArray⟩)∧(Lib.IsBuilderF 287 5 B b (Lib.byteCells l) w'∧Below B w w'):=Any.Builder_String_any_f Tryz.lays169 Tryz.Builder_Extra_169 B b l w h hBw
def Tryz.lays283_ren:Go.Shelf.Ren:=⟨fun|283=>196|n=>n,fun|3=>3|9=>9|4=>4|n=>n,fun|n=>n⟩
theorem Tryz.lays283:Go.Proofs.Lays.n283 prog Tryz.lays283_ren:={
 mixed:=by kernel_rfl
 f283:=Ct func196
 t3:=underlying3
 a3:=isAgg3
 z3:=sizeOf3
 v3:=zeroValue3
 t4:=underlying4
 a4:=isAgg4
 z4:=sizeOf4
 v4:=zeroValue4
 t9:=underlying9
 a9:=isAgg9
 z9:=sizeOf9
 v9:=zeroValue9 }
open Go.Lib in
theorem Tryz.internal_strconv_small (i:Nat) (h:i < 100) (w:World) :
  Calls prog 196 #[.int .i64 i] w fun e w'=>e=.returned (.string ⟨(Lib.decDigits i).toArray⟩)∧w' = w:=Any.internal_strconv_small Tryz.lays283 i h w
def Tryz.laysM284_ren:Go.Shelf.Ren:=⟨fun|284=>197|129=>222|317=>221|318=>223|n=>n,fun|53=>57|3=>3|212=>329|0=>0|4=>4|46=>258|5=>5|9=>9|n=>n,fun|17=>4|n=>n⟩
theorem Tryz.laysM284:Go.Proofs.LaysM.n284 prog Tryz.laysM284_ren:={
 mixed:=by kernel_rfl
 f129:=Ct func222
 f284:=Ct func197
 f317:=Ct func221
 f318:=Ct func223
 t0:=underlying0
 a0:=isAgg0
 z0:=sizeOf0
 v0:=zeroValue0
 t3:=underlying3
 a3:=isAgg3
 z3:=sizeOf3
 v3:=zeroValue3
 t4:=underlying4
 a4:=isAgg4
 z4:=sizeOf4
 v4:=zeroValue4
 t5:=underlying5
 a5:=isAgg5
 z5:=sizeOf5
 v5:=zeroValue5
 t9:=underlying9
 a9:=isAgg9
 z9:=sizeOf9
 v9:=zeroValue9
 t46:=underlying258
 a46:=isAgg258
 z46:=sizeOf258
 v46:=zeroValue258
 t53:=underlying57
 a53:=isAgg57
 z53:=sizeOf57
 v53:=zeroValue57
 t212:=underlying329
 a212:=isAgg329
 z212:=sizeOf329
 v212:=zeroValue329
 g17:=by kernel_rfl
 i0:=by kernel_rfl
 i3:=by kernel_rfl
 i4:=by kernel_rfl
 i5:=by kernel_rfl
 i9:=by kernel_rfl
 i46:=by kernel_rfl
 i53:=by kernel_rfl
 i212:=by kernel_rfl
 m17:=by kernel_rfl }
open Go.Lib in
theorem Tryz.internal_strconv_numDigits (u : Nat) (h1 : 1 ≤ u) (h2 : u < 18446744073709551616) (w : World) (htab : Lib.TabIs prog w "internal/strconv.uint64pow10" .u64 Lib.pow10Tab) :
  Calls prog 197 #[.int .u64 u] w fun e w'=>e=.returned (.int .i64 (Lib.nDigits u))∧w' = w:=Any.internal_strconv_numDigits Tryz.laysM284 u h1 h2 w htab
def Tryz.lays285_ren:Go.Shelf.Ren:=⟨fun|285=>198|n=>n,fun|37=>227|53=>57|3=>3|4=>4|51=>45|9=>9|5=>5|0=>0|n=>n,fun|n=>n⟩
theorem Tryz.lays285:Go.Proofs.Lays.n285 prog Tryz.lays285_ren:={
 mixed:=by kernel_rfl
 f285:=Ct func198
 t0:=underlying0
 a0:=isAgg0
 z0:=sizeOf0
 v0:=zeroValue0
 t3:=underlying3
 a3:=isAgg3
 z3:=sizeOf3
 v3:=zeroValue3
 t4:=underlying4
 a4:=isAgg4
 z4:=sizeOf4
 v4:=zeroValue4
 t5:=underlying5
 a5:=isAgg5
 z5:=sizeOf5
 v5:=zeroValue5
 t9:=underlying9
 a9:=isAgg9
 z9:=sizeOf9
 v9:=zeroValue9
 t37:=underlying227
 a37:=isAgg227
 z37:=sizeOf227
 v37:=zeroValue227
 t51:=underlying45
 a51:=isAgg45
 z51:=sizeOf45
 v51:=zeroValue45
 t53:=underlying57
 a53:=isAgg57
 z53:=sizeOf57
 v53:=zeroValue57 }
open Go.RowKit Go.Sort Go.Lib in
theorem Tryz.internal_strconv_formatBase10 (blk off cap:Nat) (u:Nat) (d:Array UInt8) (w:World) (hH:Holds (fun (b:UInt8)=>Value.int .u8 (b.toNat:Int)) w blk off d) (hu:u < 10 ^ d.size) (hu64:u < 18446744073709551616) (hsz:d.size < 4611686018427387904) :
  Calls prog 198 #[.slice (some ⟨blk,off,none⟩) d.size cap,.int .u64 u] w fun e w'=>
   e=.returned (.tuple #[])∧∃ (n v':Nat) (dk:Array UInt8),w' = (putRow (fun (b:UInt8)=>Value.int .u8 (b.toNat:Int)) w blk off dk).drewN n∧FmtInv d.size u 0 v' dk:=Any.internal_strconv_formatBase10 Tryz.lays285 blk off cap u d w hH hu hu64 hsz
def Tryz.laysM246_ren:Go.Shelf.Ren:=⟨fun|246=>162|283=>196|284=>197|285=>198|286=>199|129=>222|317=>221|318=>223|319=>224|320=>225|337=>251|338=>252|n=>n,fun|2=>2|3=>3|9=>9|4=>4|171=>304|0=>0|53=>57|37=>227|5=>5|173=>307|212=>329|51=>45|20=>20|213=>330|46=>258|232=>383|233=>384|n=>n,fun|17=>4|18=>7|19=>8|n=>n⟩
def Tryz.laysM173_ren:Go.Shelf.Ren:=⟨fun|173=>125|246=>162|283=>196|284=>197|285=>198|286=>199|129=>222|317=>221|318=>223|319=>224|320=>225|337=>251|338=>252|n=>n,fun|2=>2|3=>3|9=>9|4=>4|171=>304|0=>0|53=>57|37=>227|5=>5|173=>307|212=>329|51=>45|20=>20|213=>330|46=>258|232=>383|233=>384|n=>n,fun|17=>4|18=>7|19=>8|n=>n⟩
theorem Tryz.laysM173:Go.Proofs.LaysM.n173 prog Tryz.laysM173_ren:={
 mixed:=by kernel_rfl
 f129:=Ct func222
 f173:=Ct func125
 f246:=Ct func162
 f283:=Ct func196
 f284:=Ct func197
 f285:=Ct func198
 f286:=Ct func199
 f317:=Ct func221
 f318:=Ct func223
 f319:=Ct func224
 f320:=Ct func225
 f337:=Ct func251
 f338:=Ct func252
 t0:=underlying0
 a0:=isAgg0
 z0:=sizeOf0
 v0:=zeroValue0
 t2:=underlying2
 a2:=isAgg2
 z2:=sizeOf2
 v2:=zeroValue2
 t3:=underlying3
 a3:=isAgg3
 z3:=sizeOf3
 v3:=zeroValue3
 t4:=underlying4
 a4:=isAgg4
 z4:=sizeOf4
 v4:=zeroValue4
 t5:=underlying5
 a5:=isAgg5
 z5:=sizeOf5
 v5:=zeroValue5
 t9:=underlying9
 a9:=isAgg9
 z9:=sizeOf9
 v9:=zeroValue9
 t20:=underlying20
 a20:=isAgg20
 z20:=sizeOf20
 v20:=zeroValue20
 t37:=underlying227
 a37:=isAgg227
 z37:=sizeOf227
 v37:=zeroValue227
 t46:=underlying258
 a46:=isAgg258
 z46:=sizeOf258
 v46:=zeroValue258
 t51:=underlying45
 a51:=isAgg45
 z51:=sizeOf45
 v51:=zeroValue45
 t53:=underlying57
 a53:=isAgg57
 z53:=sizeOf57
 v53:=zeroValue57
 t171:=underlying304
 a171:=isAgg304
 z171:=sizeOf304
 v171:=zeroValue304
 t173:=underlying307
 a173:=isAgg307
 z173:=sizeOf307
 v173:=zeroValue307
 t212:=underlying329
 a212:=isAgg329
 z212:=sizeOf329
 v212:=zeroValue329
 t213:=underlying330
 a213:=isAgg330
 z213:=sizeOf330
 t232:=underlying383
 a232:=isAgg383
 z232:=sizeOf383
 v232:=zeroValue383
 t233:=underlying384
 a233:=isAgg384
 z233:=sizeOf384
 v233:=zeroValue384
 g17:=by kernel_rfl
 g18:=by kernel_rfl
 g19:=by kernel_rfl
 i0:=by kernel_rfl
 i2:=by kernel_rfl
 i3:=by kernel_rfl
 i4:=by kernel_rfl
 i5:=by kernel_rfl
 i9:=by kernel_rfl
 i20:=by kernel_rfl
 i37:=by kernel_rfl
 i46:=by kernel_rfl
 i51:=by kernel_rfl
 i53:=by kernel_rfl
 i171:=by kernel_rfl
 i173:=by kernel_rfl
 i212:=by kernel_rfl
 i232:=by kernel_rfl
 i233:=by kernel_rfl
 m17:=by kernel_rfl
 m18:=by kernel_rfl
 m19:=by kernel_rfl }
open Go.RowKit Go.Sort Go.Lib in
theorem Tryz.strconv_FormatInt_10 (n : Int) (h0 : -9223372036854775808 ≤ n) (h1 : n ≤ 9223372036854775807) (w : World) (htab : Lib.TabIs prog w "internal/strconv.uint64pow10" .u64 Lib.pow10Tab) :
  Calls prog 125 #[.int .i64 n,.int .i64 10] w fun e w'=>e=.returned (.string ⟨(Lib.itoa n).toArray⟩)∧∃ k os,w' = grow (w.drewN k) os:=Any.strconv_FormatInt_10 Tryz.laysM173 n h0 h1 w htab
def Tryz.laysC245_ren:Go.Shelf.Ren:=⟨fun|245=>161|279=>192|280=>193|281=>194|282=>195|316=>218|171=>220|205=>219|243=>250|246=>162|283=>196|284=>197|285=>198|286=>199|129=>222|317=>221|318=>223|319=>224|320=>225|337=>251|338=>252|n=>n,fun|9=>9|3=>3|75=>52|167=>299|4=>4|168=>300|210=>327|37=>227|0=>0|127=>315|145=>367|143=>365|2=>2|171=>304|53=>57|5=>5|173=>307|212=>329|51=>45|20=>20|213=>330|46=>258|232=>383|233=>384|80=>147|n=>n,fun|15=>2|16=>3|17=>4|18=>7|19=>8|n=>n⟩
def Tryz.laysC174_ren:Go.Shelf.Ren:=⟨fun|174=>124|247=>160|245=>161|287=>191|279=>192|280=>193|281=>194|282=>195|321=>216|322=>217|316=>218|171=>220|205=>219|243=>250|246=>162|283=>196|284=>197|285=>198|286=>199|129=>222|317=>221|318=>223|319=>224|320=>225|337=>251|338=>252|n=>n,fun|9=>9|3=>3|2=>2|75=>52|85=>214|4=>4|167=>299|5=>5|53=>57|175=>292|46=>258|168=>300|37=>227|0=>0|210=>327|21=>21|127=>315|145=>367|143=>365|171=>304|173=>307|212=>329|51=>45|20=>20|213=>330|232=>383|233=>384|80=>147|n=>n,fun|15=>2|16=>3|17=>4|18=>7|19=>8|n=>n⟩
theorem Tryz.laysC174:Go.Proofs.LaysC.n174 prog Tryz.laysC174_ren:={
 mixed:=by kernel_rfl
 f129:=Ct func222
 f171:=Ct func220
 f174:=Ct func124
 f205:=Ct func219
 f243:=Ct func250
 f245:=Ct func161
 f246:=Ct func162
 f247:=Ct func160
 f279:=Ct func192
 f280:=Ct func193
 f281:=Ct func194
 f282:=Ct func195
 f283:=Ct func196
 f284:=Ct func197
 f285:=Ct func198
 f286:=Ct func199
 f287:=Ct func191
 f316:=Ct func218
 f317:=Ct func221
 f318:=Ct func223
 f319:=Ct func224
 f320:=Ct func225
 f321:=Ct func216
 f322:=Ct func217
 f337:=Ct func251
 f338:=Ct func252
 t0:=underlying0
 a0:=isAgg0
 z0:=sizeOf0
 v0:=zeroValue0
 t2:=underlying2
 a2:=isAgg2
 z2:=sizeOf2
 v2:=zeroValue2
 t3:=underlying3
 a3:=isAgg3
 z3:=sizeOf3
 v3:=zeroValue3
 t4:=underlying4
 a4:=isAgg4
 z4:=sizeOf4
 v4:=zeroValue4
 t5:=underlying5
 a5:=isAgg5
 z5:=sizeOf5
 v5:=zeroValue5
 t9:=underlying9
 a9:=isAgg9
 z9:=sizeOf9
 v9:=zeroValue9
 t20:=underlying20
 a20:=isAgg20
 z20:=sizeOf20
 v20:=zeroValue20
 t21:=underlying21
 a21:=isAgg21
 z21:=sizeOf21
 v21:=zeroValue21
 t37:=underlying227
 a37:=isAgg227
 z37:=sizeOf227
 v37:=zeroValue227
 t46:=underlying258
 a46:=isAgg258
 z46:=sizeOf258
 v46:=zeroValue258
 t51:=underlying45
 a51:=isAgg45
 z51:=sizeOf45
 v51:=zeroValue45
 t53:=underlying57
 a53:=isAgg57
 z53:=sizeOf57
 v53:=zeroValue57
 t75:=underlying52
 a75:=isAgg52
 z75:=sizeOf52
 v75:=zeroValue52
 t85:=underlying214
 a85:=isAgg214
 z85:=sizeOf214
 v85:=zeroValue214
 t127:=underlying315
 a127:=isAgg315
 z127:=sizeOf315
 v127:=zeroValue315
 t143:=underlying365
 a143:=isAgg365
 z143:=sizeOf365
 v143:=zeroValue365
 t145:=underlying367
 a145:=isAgg367
 z145:=sizeOf367
 v145:=zeroValue367
 t167:=underlying299
 a167:=isAgg299
 z167:=sizeOf299
 v167:=zeroValue299
 t168:=underlying300
 a168:=isAgg300
 z168:=sizeOf300
 v168:=zeroValue300
 t171:=underlying304
 a171:=isAgg304
 z171:=sizeOf304
 v171:=zeroValue304
 t173:=underlying307
 a173:=isAgg307
 z173:=sizeOf307
 v173:=zeroValue307
 t175:=underlying292
 a175:=isAgg292
 z175:=sizeOf292
 v175:=zeroValue292
 t210:=underlying327
 a210:=isAgg327
 z210:=sizeOf327
 v210:=zeroValue327
 t212:=underlying329
 a212:=isAgg329
 z212:=sizeOf329
 v212:=zeroValue329
 t213:=underlying330
 a213:=isAgg330
 z213:=sizeOf330
 t232:=underlying383
 a232:=isAgg383
 z232:=sizeOf383
 v232:=zeroValue383
 t233:=underlying384
 a233:=isAgg384
 z233:=sizeOf384
 v233:=zeroValue384
 g15:=by kernel_rfl
 g16:=by kernel_rfl
 g17:=by kernel_rfl
 g18:=by kernel_rfl
 g19:=by kernel_rfl
 t80:=underlying147
 a80:=isAgg147
 z80:=sizeOf147
 v80:=zeroValue147
 i0:=by kernel_rfl
 i2:=by kernel_rfl
 i3:=by kernel_rfl
 i4:=by kernel_rfl
 i5:=by kernel_rfl
 i9:=by kernel_rfl
 i20:=by kernel_rfl
 i21:=by kernel_rfl
 i37:=by kernel_rfl
 i46:=by kernel_rfl
 i51:=by kernel_rfl
 i53:=by kernel_rfl
 i75:=by kernel_rfl
 i80:=by kernel_rfl
 i85:=by kernel_rfl
 i127:=by kernel_rfl
 i143:=by kernel_rfl
 i145:=by kernel_rfl
 i167:=by kernel_rfl
 i168:=by kernel_rfl
 i171:=by kernel_rfl
 i173:=by kernel_rfl
 i175:=by kernel_rfl
 i210:=by kernel_rfl
 i212:=by kernel_rfl
 i232:=by kernel_rfl
 i233:=by kernel_rfl
 m15:=by kernel_rfl
 m16:=by kernel_rfl
 m17:=by kernel_rfl
 m18:=by kernel_rfl
 m19:=by kernel_rfl
 c0:=by kernel_rfl
 c2:=by kernel_rfl
 c3:=by kernel_rfl
 c4:=by kernel_rfl
 c5:=by kernel_rfl
 c9:=by kernel_rfl
 c20:=by kernel_rfl
 c21:=by kernel_rfl
 c37:=by kernel_rfl
 c46:=by kernel_rfl
 c51:=by kernel_rfl
 c53:=by kernel_rfl
 c75:=by kernel_rfl
 c80:=by kernel_rfl
 c85:=by kernel_rfl
 c127:=by kernel_rfl
 c143:=by kernel_rfl
 c145:=by kernel_rfl
 c167:=by kernel_rfl
 c168:=by kernel_rfl
 c171:=by kernel_rfl
 c173:=by kernel_rfl
 c175:=by kernel_rfl
 c210:=by kernel_rfl
 c212:=by kernel_rfl
 c213:=by kernel_rfl
 c232:=by kernel_rfl
 c233:=by kernel_rfl }
open Go.RowKit in
theorem Tryz.strconv_ParseInt_10_at64_ok (s:ByteArray) (hmax:s.size≤9223372036854775806) (v:Int) (h:Lib.parseIntB 64 s.data.toList=.ok v) (w:World) :
  Calls prog 124 #[.string s,.int .i64 10,.int .i64 64] w fun e w'=>e=.returned (.tuple #[.int .i64 v,.nilIface])∧(w' = w∨∃ t,w' = Lib.bytesWorld w 5 t):=Any.strconv_ParseInt_10_at64_ok Tryz.laysC174 s hmax v h w
open Go.RowKit in
theorem Tryz.strconv_ParseInt_10_at64_syntax (s:ByteArray) (hlim:s.size≤281474976710656) (h:Lib.parseIntB 64 s.data.toList=.«syntax») (ev:Value) (w:World) (hv:w.cell? ⟨2,0,none⟩=some ev) (hev:ev=.nilIface∨∃ te pe,ev=.iface te pe) :
  Calls prog 124 #[.string s,.int .i64 10,.int .i64 64] w fun e w'=>∃ N,e=.returned (.tuple #[.int .i64 (0),.iface 300 (.pointer (some ⟨N,0,none⟩))])∧w.heap.size≤N∧w'.heap[N]? = some (.cells #[.string ⟨#[80,97,114,115,101,73,110,116]⟩,.string s,ev] 327 (0,0))∧Below w.heap.size w w':=Any.strconv_ParseInt_10_at64_syntax Tryz.laysC174 s hlim h ev w hv hev
open Go.RowKit in
theorem Tryz.strconv_ParseInt_10_at64_range (s:ByteArray) (hlim:s.size≤281474976710656) (h:Lib.parseIntB 64 s.data.toList=.range) (ev:Value) (w:World) (hv:w.cell? ⟨3,0,none⟩=some ev) (hev:ev=.nilIface∨∃ te pe,ev=.iface te pe) :
  Calls prog 124 #[.string s,.int .i64 10,.int .i64 64] w fun e w'=>∃ N,e=.returned (.tuple #[.int .i64 (Lib.intSat 64 s.data.toList),.iface 300 (.pointer (some ⟨N,0,none⟩))])∧w.heap.size≤N∧w'.heap[N]? = some (.cells #[.string ⟨#[80,97,114,115,101,73,110,116]⟩,.string s,ev] 327 (0,0))∧Below w.heap.size w w':=Any.strconv_ParseInt_10_at64_range Tryz.laysC174 s hlim h ev w hv hev
def Tryz.laysPu14_ren:Go.Shelf.Ren:=⟨fun|14=>187|16=>191|17=>161|19=>216|20=>217|21=>192|22=>193|23=>194|24=>195|25=>218|27=>220|26=>219|28=>250|29=>162|30=>196|31=>197|32=>198|33=>199|35=>222|34=>221|36=>223|37=>224|38=>225|39=>251|40=>252|n=>n,fun|9=>9|3=>3|22=>57|24=>52|25=>292|4=>4|34=>299|5=>5|36=>258|37=>227|0=>0|39=>300|21=>21|44=>327|47=>315|50=>367|48=>365|2=>2|52=>304|55=>307|59=>329|60=>45|20=>20|61=>330|65=>383|66=>384|67=>147|n=>n,fun|0=>2|1=>3|2=>4|3=>7|4=>8|n=>n⟩
theorem Tryz.laysPu14:Go.Proofs.LaysPu.n14 prog Tryz.laysPu14_ren:={
 mixed:=by kernel_rfl
 f14:=Ct func187
 f16:=Ct func191
 f17:=Ct func161
 f19:=Ct func216
 f20:=Ct func217
 f21:=Ct func192
 f22:=Ct func193
 f23:=Ct func194
 f24:=Ct func195
 f25:=Ct func218
 f26:=Ct func219
 f27:=Ct func220
 f28:=Ct func250
 f29:=Ct func162
 f30:=Ct func196
 f31:=Ct func197
 f32:=Ct func198
 f33:=Ct func199
 f34:=Ct func221
 f35:=Ct func222
 f36:=Ct func223
 f37:=Ct func224
 f38:=Ct func225
 f39:=Ct func251
 f40:=Ct func252
 t0:=underlying0
 a0:=isAgg0
 z0:=sizeOf0
 v0:=zeroValue0
 i0:=by kernel_rfl
 t2:=underlying2
 a2:=isAgg2
 z2:=sizeOf2
 v2:=zeroValue2
 i2:=by kernel_rfl
 t3:=underlying3
 a3:=isAgg3
 z3:=sizeOf3
 v3:=zeroValue3
 i3:=by kernel_rfl
 t4:=underlying4
 a4:=isAgg4
 z4:=sizeOf4
 v4:=zeroValue4
 i4:=by kernel_rfl
 t5:=underlying5
 a5:=isAgg5
 z5:=sizeOf5
 v5:=zeroValue5
 i5:=by kernel_rfl
 t9:=underlying9
 a9:=isAgg9
 z9:=sizeOf9
 v9:=zeroValue9
 i9:=by kernel_rfl
 t20:=underlying20
 a20:=isAgg20
 z20:=sizeOf20
 v20:=zeroValue20
 i20:=by kernel_rfl
 t21:=underlying21
 a21:=isAgg21
 z21:=sizeOf21
 v21:=zeroValue21
 i21:=by kernel_rfl
 t22:=underlying57
 a22:=isAgg57
 z22:=sizeOf57
 v22:=zeroValue57
 i22:=by kernel_rfl
 t24:=underlying52
 a24:=isAgg52
 z24:=sizeOf52
 v24:=zeroValue52
 i24:=by kernel_rfl
 t25:=underlying292
 a25:=isAgg292
 z25:=sizeOf292
 v25:=zeroValue292
 i25:=by kernel_rfl
 t34:=underlying299
 a34:=isAgg299
 z34:=sizeOf299
 v34:=zeroValue299
 i34:=by kernel_rfl
 c34:=by kernel_rfl
 t36:=underlying258
 a36:=isAgg258
 z36:=sizeOf258
 v36:=zeroValue258
 i36:=by kernel_rfl
 t37:=underlying227
 a37:=isAgg227
 z37:=sizeOf227
 v37:=zeroValue227
 i37:=by kernel_rfl
 t39:=underlying300
 a39:=isAgg300
 z39:=sizeOf300
 v39:=zeroValue300
 i39:=by kernel_rfl
 t44:=underlying327
 a44:=isAgg327
 z44:=sizeOf327
 v44:=zeroValue327
 i44:=by kernel_rfl
 t47:=underlying315
 a47:=isAgg315
 z47:=sizeOf315
 v47:=zeroValue315
 i47:=by kernel_rfl
 t48:=underlying365
 a48:=isAgg365
 z48:=sizeOf365
 v48:=zeroValue365
 i48:=by kernel_rfl
 t50:=underlying367
 a50:=isAgg367
 z50:=sizeOf367
 v50:=zeroValue367
 i50:=by kernel_rfl
 t52:=underlying304
 a52:=isAgg304
 z52:=sizeOf304
 v52:=zeroValue304
 i52:=by kernel_rfl
 t55:=underlying307
 a55:=isAgg307
 z55:=sizeOf307
 v55:=zeroValue307
 i55:=by kernel_rfl
 t59:=underlying329
 a59:=isAgg329
 z59:=sizeOf329
 v59:=zeroValue329
 i59:=by kernel_rfl
 t60:=underlying45
 a60:=isAgg45
 z60:=sizeOf45
 v60:=zeroValue45
 i60:=by kernel_rfl
 t61:=underlying330
 a61:=isAgg330
 z61:=sizeOf330
 t65:=underlying383
 a65:=isAgg383
 z65:=sizeOf383
 v65:=zeroValue383
 i65:=by kernel_rfl
 t66:=underlying384
 a66:=isAgg384
 z66:=sizeOf384
 v66:=zeroValue384
 i66:=by kernel_rfl
 t67:=underlying147
 a67:=isAgg147
 z67:=sizeOf147
 v67:=zeroValue147
 i67:=by kernel_rfl
 g0:=by kernel_rfl
 m0:=by kernel_rfl
 g1:=by kernel_rfl
 m1:=by kernel_rfl
 g2:=by kernel_rfl
 m2:=by kernel_rfl
 g3:=by kernel_rfl
 m3:=by kernel_rfl
 g4:=by kernel_rfl
 m4:=by kernel_rfl }
open Go.RowKit in
theorem Tryz.strconv_ParseUint_10_at64_ok (s:ByteArray) (hmax:s.size≤9223372036854775806) (u:Nat) (h:Lib.parseUintB 64 s.data.toList=.ok u) (w:World) :
  Calls prog 187 #[.string s,.int .i64 10,.int .i64 64] w fun e w'=>e=.returned (.tuple #[.int .u64 u,.nilIface])∧(w' = w∨w' = Lib.bytesWorld w 5 s):=Any.strconv_ParseUint_10_at64_ok Tryz.laysPu14 s hmax u h w
open Go.RowKit in
theorem Tryz.strconv_ParseUint_10_at64_syntax (s:ByteArray) (hlim:s.size≤281474976710656) (h:Lib.parseUintB 64 s.data.toList=.«syntax») (ev:Value) (w:World) (hv:w.cell? ⟨2,0,none⟩=some ev) (hev:ev=.nilIface∨∃ te pe,ev=.iface te pe) :
  Calls prog 187 #[.string s,.int .i64 10,.int .i64 64] w fun e w'=>∃ N,e=.returned (.tuple #[.int .u64 0,.iface 300 (.pointer (some ⟨N,0,none⟩))])∧w.heap.size≤N∧w'.heap[N]? = some (.cells #[.string ⟨#[80,97,114,115,101,85,105,110,116]⟩,.string s,ev] 327 (0,0))∧Below w.heap.size w w':=Any.strconv_ParseUint_10_at64_syntax Tryz.laysPu14 s hlim h ev w hv hev
open Go.RowKit in
theorem Tryz.strconv_ParseUint_10_at64_range (s:ByteArray) (hlim:s.size≤281474976710656) (h:Lib.parseUintB 64 s.data.toList=.range) (ev:Value) (w:World) (hv:w.cell? ⟨3,0,none⟩=some ev) (hev:ev=.nilIface∨∃ te pe,ev=.iface te pe) :
  Calls prog 187 #[.string s,.int .i64 10,.int .i64 64] w fun e w'=>∃ N,e=.returned (.tuple #[.int .u64 18446744073709551615,.iface 300 (.pointer (some ⟨N,0,none⟩))])∧w.heap.size≤N∧w'.heap[N]? = some (.cells #[.string ⟨#[80,97,114,115,101,85,105,110,116]⟩,.string s,ev] 327 (0,0))∧Below w.heap.size w w':=Any.strconv_ParseUint_10_at64_range Tryz.laysPu14 s hlim h ev w hv hev
def Tryz.laysGw17_ren:Go.Shelf.Ren:=⟨fun|17=>206|15=>235|20=>259|n=>n,fun|9=>9|23=>192|4=>4|3=>3|0=>0|21=>21|n=>n,fun|n=>n⟩
theorem Tryz.laysGw17:Go.Proofs.LaysGw.n17 prog Tryz.laysGw17_ren:={
 mixed:=by kernel_rfl
 f15:=Ct func235
 f17:=Ct func206
 f20:=Ct func259
 t0:=underlying0
 a0:=isAgg0
 z0:=sizeOf0
 v0:=zeroValue0
 i0:=by kernel_rfl
 t3:=underlying3
 a3:=isAgg3
 z3:=sizeOf3
 v3:=zeroValue3
 i3:=by kernel_rfl
 t4:=underlying4
 a4:=isAgg4
 z4:=sizeOf4
 v4:=zeroValue4
 i4:=by kernel_rfl
 t9:=underlying9
 a9:=isAgg9
 z9:=sizeOf9
 v9:=zeroValue9
 i9:=by kernel_rfl
 t21:=underlying21
 a21:=isAgg21
 z21:=sizeOf21
 v21:=zeroValue21
 i21:=by kernel_rfl
 t23:=underlying192
 a23:=isAgg192
 z23:=sizeOf192
 v23:=zeroValue192
 i23:=by kernel_rfl }
open Go.RowKit Go.Lib in
theorem Tryz.strings_ContainsFunc (g:Nat) (lb:Array Value) (eg:∀ args w,(callFunc g args).run prog w=.ok (.enter g args) w) (p:Nat→Bool) (s:ByteArray) (w:World) (hp:PredAt prog g lb encR p w) :
  Calls prog 206 #[.string s,.func (.func g) #[] lb] w fun e w'=>e=.returned (.bool (decide (0≤Lib.idxFunc p true s)))∧Below w.heap.size w w':=Any.strings_ContainsFunc Tryz.laysGw17 g lb eg p s w hp
def Tryz.lays99_ren:Go.Shelf.Ren:=⟨fun|99=>108|206=>152|n=>n,fun|9=>9|4=>4|3=>3|n=>n,fun|n=>n⟩
theorem Tryz.lays99:Go.Proofs.Lays.n99 prog Tryz.lays99_ren:={
 mixed:=by kernel_rfl
 f99:=Ct func108
 f206:=Ct func152
 t3:=underlying3
 a3:=isAgg3
 z3:=sizeOf3
 v3:=zeroValue3
 t4:=underlying4
 a4:=isAgg4
 z4:=sizeOf4
 v4:=zeroValue4
 t9:=underlying9
 a9:=isAgg9
 z9:=sizeOf9
 v9:=zeroValue9 }
open Go.RowKit Go.Lib in
theorem Tryz.strings_HasPrefix (s p:ByteArray) (w:World) :
  Calls prog 108 #[.string s,.string p] w fun e w'=>e=.returned (.bool (Lib.hasPrefix s.data.toList p.data.toList))∧w' = w:=Any.strings_HasPrefix Tryz.lays99 s p w
def Tryz.lays151_ren:Go.Shelf.Ren:=⟨fun|151=>116|152=>156|137=>183|119=>184|224=>185|225=>186|217=>207|266=>236|n=>n,fun|9=>9|21=>21|4=>4|3=>3|5=>5|0=>0|46=>258|n=>n,fun|n=>n⟩
theorem Tryz.lays151:Go.Proofs.Lays.n151 prog Tryz.lays151_ren:={
 mixed:=by kernel_rfl
 f119:=Ct func184
 f137:=Ct func183
 f151:=Ct func116
 f152:=Ct func156
 f217:=Ct func207
 f224:=Ct func185
 f225:=Ct func186
 f266:=Ct func236
 t0:=underlying0
 a0:=isAgg0
 z0:=sizeOf0
 v0:=zeroValue0
 t3:=underlying3
 a3:=isAgg3
 z3:=sizeOf3
 v3:=zeroValue3
 t4:=underlying4
 a4:=isAgg4
 z4:=sizeOf4
 v4:=zeroValue4
 t5:=underlying5
 a5:=isAgg5
 z5:=sizeOf5
 v5:=zeroValue5
 t9:=underlying9
 a9:=isAgg9
 z9:=sizeOf9
 v9:=zeroValue9
 t21:=underlying21
 a21:=isAgg21
 z21:=sizeOf21
 v21:=zeroValue21
 t46:=underlying258
 a46:=isAgg258
 z46:=sizeOf258
 v46:=zeroValue258 }
open Go.RowKit Go.Lib in
theorem Tryz.strings_ContainsRune_ascii (s:ByteArray) (r:Int) (w:World) (h0:0≤r) (h1:r < 128) :
  Calls prog 116 #[.string s,.int .i32 r] w fun e w'=>e=.returned (.bool (decide (0≤Lib.indexByte s.data.toList r.toNat.toUInt8)))∧w' = w:=Any.strings_ContainsRune_ascii Tryz.lays151 s r w h0 h1
def Tryz.lays264_ren:Go.Shelf.Ren:=⟨fun|264=>264|n=>n,fun|53=>57|46=>258|n=>n,fun|n=>n⟩
theorem Tryz.lays264:Go.Proofs.Lays.n264 prog Tryz.lays264_ren:={
 mixed:=by kernel_rfl
 f264:=Ct func264
 t46:=underlying258
 a46:=isAgg258
 z46:=sizeOf258
 v46:=zeroValue258
 t53:=underlying57
 a53:=isAgg57
 z53:=sizeOf57
 v53:=zeroValue57 }
open Go.RowKit Go.Lib in
theorem Tryz.bits_Mul64 (x y:Nat) (hx:x < 18446744073709551616) (hy:y < 18446744073709551616) (w:World) :
  Calls prog 264 #[.int .u64 x,.int .u64 y] w fun e w'=>e=.returned (.tuple #[.int .u64 ((x*y / 18446744073709551616:Nat):Int),.int .u64 ((x*y % 18446744073709551616:Nat):Int)])∧w' = w:=Any.bits_Mul64 Tryz.lays264 x y hx hy w
def Tryz.lays105_ren:Go.Shelf.Ren:=⟨fun|105=>213|212=>244|99=>108|165=>245|166=>246|170=>247|169=>182|263=>263|264=>264|206=>152|240=>204|241=>265|276=>233|277=>275|n=>n,fun|9=>9|3=>3|4=>4|20=>20|0=>0|46=>258|109=>359|5=>5|72=>287|76=>361|51=>45|146=>377|53=>57|148=>379|70=>285|37=>227|75=>52|127=>315|164=>133|80=>147|n=>n,fun|n=>n⟩
theorem Tryz.lays105:Go.Proofs.Lays.n105 prog Tryz.lays105_ren:={
 mixed:=by kernel_rfl
 f99:=Ct func108
 f105:=Ct func213
 f165:=Ct func245
 f166:=Ct func246
 f169:=Ct func182
 f170:=Ct func247
 f206:=Ct func152
 f212:=Ct func244
 f240:=Ct func204
 f241:=Ct func265
 f263:=Ct func263
 f264:=Ct func264
 f276:=Ct func233
 f277:=Ct func275
 t0:=underlying0
 a0:=isAgg0
 z0:=sizeOf0
 v0:=zeroValue0
 t3:=underlying3
 a3:=isAgg3
 z3:=sizeOf3
 v3:=zeroValue3
 t4:=underlying4
 a4:=isAgg4
 z4:=sizeOf4
 v4:=zeroValue4
 t5:=underlying5
 a5:=isAgg5
 z5:=sizeOf5
 v5:=zeroValue5
 t9:=underlying9
 a9:=isAgg9
 z9:=sizeOf9
 v9:=zeroValue9
 t20:=underlying20
 a20:=isAgg20
 z20:=sizeOf20
 v20:=zeroValue20
 t37:=underlying227
 a37:=isAgg227
 z37:=sizeOf227
 v37:=zeroValue227
 t46:=underlying258
 a46:=isAgg258
 z46:=sizeOf258
 v46:=zeroValue258
 t51:=underlying45
 a51:=isAgg45
 z51:=sizeOf45
 v51:=zeroValue45
 t53:=underlying57
 a53:=isAgg57
 z53:=sizeOf57
 v53:=zeroValue57
 t70:=underlying285
 a70:=isAgg285
 z70:=sizeOf285
 v70:=zeroValue285
 t72:=underlying287
 a72:=isAgg287
 z72:=sizeOf287
 v72:=zeroValue287
 t75:=underlying52
 a75:=isAgg52
 z75:=sizeOf52
 v75:=zeroValue52
 t76:=underlying361
 a76:=isAgg361
 z76:=sizeOf361
 v76:=zeroValue361
 t109:=underlying359
 a109:=isAgg359
 z109:=sizeOf359
 v109:=zeroValue359
 t127:=underlying315
 a127:=isAgg315
 z127:=sizeOf315
 v127:=zeroValue315
 t146:=underlying377
 a146:=isAgg377
 z146:=sizeOf377
 v146:=zeroValue377
 t148:=underlying379
 a148:=isAgg379
 z148:=sizeOf379
 v148:=zeroValue379
 t164:=underlying133
 a164:=isAgg133
 z164:=sizeOf133
 v164:=zeroValue133 }
theorem Tryz.Builder_Extra_105:Builder.Extra prog Tryz.lays105_ren:={
 sizeBuilder:=by kernel_rfl
 liesBuilder:=by kernel_rfl
 t5:=underlying5
 a5:=isAgg5
 z5:=sizeOf5
 v5:=zeroValue5
 infoByte:=by kernel_rfl
 cellsByte:=by kernel_rfl
 sizeByte:=by kernel_rfl
 neB5:=by decide }
open Go.RowKit Go.Lib in
theorem Tryz.strings_Repeat (s:ByteArray) (c:Nat) (w:World) (hc:c≤9223372036854775807) (hlen:s.size*c≤140737488355328) :
  Calls prog 213 #[.string s,.int .i64 c] w fun e w'=>e=.returned (.string ⟨(Lib.repeatL s.data.toList c).toArray⟩)∧Below w.heap.size w w':=Any.strings_Repeat Tryz.lays105 Tryz.Builder_Extra_105 s c w hc hlen
end Go.Proofs
namespace Go.Proofs
open Go.Proofs.Tryz
open Go.Shelf
def Tryz.lays196_ren:Go.Shelf.Ren:=⟨fun|196=>205|259=>234|n=>n,fun|9=>9|4=>4|3=>3|5=>5|12=>12|119=>347|0=>0|46=>258|139=>350|138=>349|53=>57|n=>n,fun|3=>5|4=>6|n=>n⟩
theorem Tryz.lays196:Go.Proofs.Lays.n196 prog Tryz.lays196_ren:={
 mixed:=by kernel_rfl
 f196:=func205.trans (congrArg some (by kernel_rfl))
 f259:=func234.trans (congrArg some (by kernel_rfl))
 t0:=underlying0
 a0:=isAgg0
 z0:=sizeOf0
 v0:=zeroValue0
 t3:=underlying3
 a3:=isAgg3
 z3:=sizeOf3
 v3:=zeroValue3
 t4:=underlying4
 a4:=isAgg4
 z4:=sizeOf4
 v4:=zeroValue4
 t5:=underlying5
 a5:=isAgg5
 z5:=sizeOf5
 v5:=zeroValue5
 t9:=underlying9
 a9:=isAgg9
 z9:=sizeOf9
 v9:=zeroValue9
 t12:=underlying12
 a12:=isAgg12
 z12:=sizeOf12
 v12:=zeroValue12
 t46:=underlying258
 a46:=isAgg258
 z46:=sizeOf258
 v46:=zeroValue258
 t53:=underlying57
 a53:=isAgg57
 z53:=sizeOf57
 v53:=zeroValue57
 t119:=underlying347
 a119:=isAgg347
 z119:=sizeOf347
 t138:=underlying349
 a138:=isAgg349
 z138:=sizeOf349
 v138:=zeroValue349
 t139:=underlying350
 a139:=isAgg350
 z139:=sizeOf350
 v139:=zeroValue350
 g3:=by kernel_rfl
 g4:=by kernel_rfl }
end Go.Proofs
