/-
  The library's contracts at this program, laid by the kit's tools.
-/
import Derived.Shelf.Strings.Builder1
import Derived.Shelf.Strings.Builder2
import Derived.Shelf.Strings.OnBuilder
import Derived.Shelf.Strings.Trim
import Derived.Shelf.Small.Utf8
import Derived.Shelf.Small.Bits
import Derived.Shelf.Small.Strs
import Derived.Shelf.Small.Wraps
import Derived.Shelf.Strings.BuilderF
import Derived.Shelf.Strings.BuilderK
import Derived.Shelf.Utf8.RuneCount
import Derived.Shelf.Strings.Builder2Cap
import Derived.Shelf.Strconv.Itoa0
import Derived.Shelf.Strconv.Itoa1
import Derived.Shelf.LaysM
import Derived.Shelf.Strconv.Itoa2
import Derived.Shelf.Strconv.Itoa3
import Derived.Shelf.Strconv.Itoa4
import Derived.Shelf.Strconv.ParseIntEmpty
import Derived.Shelf.Strconv.Clone
import Derived.Shelf.Strconv.SyntaxError
import Derived.Shelf.LaysC
import Derived.Shelf.Strconv.ToError
import Derived.Shelf.Strconv.Lower
import Derived.Shelf.Strconv.ParseUint10
import Derived.Shelf.Strconv.ParseUint10Empty
import Derived.Shelf.Strconv.ParseUint10Any
import Derived.Shelf.Strconv.ParseInt10
import Derived.Shelf.Strconv.RangeError
import Derived.Shelf.Strconv.ToErrorRange
import Derived.Shelf.Strconv.ParseUintEmpty
import Derived.Shelf.Strconv.ParseUint10b64
import Derived.Shelf.Strconv.ParseUint10b32
import Derived.Shelf.Strconv.ParseUint10b16
import Derived.Shelf.Strconv.ParseUint10b8
import Derived.Shelf.Strconv.ParseUint10At
import Derived.Shelf.Strconv.ParseInt10At64
import Derived.Shelf.Strconv.ParseInt10At32
import Derived.Shelf.Strconv.ParseInt10At16
import Derived.Shelf.Strconv.ParseInt10At8
import Derived.Shelf.Strconv.ParseInt10All
import Derived.Shelf.Strconv.ParseIntPublic10
import Derived.Shelf.Strconv.ErrVarParseInt
import Derived.Ground.MpProg
import Derived.Shelf.Pu.ParseUintPublic10
import Derived.Shelf.Pu.ErrVarParseUint
import Derived.Shelf.Strings.Search1
import Derived.Shelf.Strings.Search2
import Derived.Shelf.Strings.Search3
import Derived.Shelf.Strings.Count
import Derived.Shelf.Strings.Shaped
import Derived.Shelf.GgClosure.StringsIndexFunc
import Derived.Ground.GgwProg
import Derived.Shelf.GgClosure.StringsIndexFuncTop
import Derived.Shelf.GgClosure.StringsRunes
import Derived.Shelf.Strings.Prefix
import Derived.Shelf.Strings.Split
import Derived.Shelf.Unicode.Decode
import Derived.Shelf.Strings.Runes
import Derived.Shelf.Strings.RuneCount
import Derived.Shelf.Strings.AsciiSet
import Derived.Shelf.Bits.Mul64
import Derived.Shelf.Strings.Repeat
import Derived.Shelf.Unicode.DecodeSlow
import Derived.Shelf.Unicode.DecodeAny
import Derived.Shelf.Unicode.DecodeLast
import Derived.Shelf.Strings.FuncGrows
import Derived.Shelf.Strings.BuilderCap
import Derived.Ground.Names2Prog
import Derived.Shelf.Slices.Clone
import Derived.Test.YtkblpaabknjckaaGreatDoorProg
import Derived.Ground.NamesProg
import Derived.Shelf.Unicode.ValidAny
namespace Go.Proofs
open Go.Proofs.Tryz
theorem Ct {α:Type} {x:Option α} {a b:α} (h:x=some a) (e:a=b:=by kernel_rfl):x=some b:=h.trans (congrArg some e)
open Go.Shelf
def Tryz.lays169_ren:Go.Shelf.Ren:=⟨fun|169=>91|n=>n,fun|70=>171|9=>9|0=>0|72=>174|37=>172|127=>199|3=>3|5=>5|n=>n,fun|n=>n⟩
theorem Tryz.lays169:Go.Proofs.Lays.n169 prog Tryz.lays169_ren:={
 mixed:=by kernel_rfl
 f169:=Ct func91
 t0:=underlying0
 a0:=isAgg0
 z0:=sizeOf0
 v0:=zeroValue0
 t3:=underlying3
 a3:=isAgg3
 z3:=sizeOf3
 v3:=zeroValue3
 t9:=underlying9
 a9:=isAgg9
 z9:=sizeOf9
 v9:=zeroValue9
 t37:=underlying172
 a37:=isAgg172
 z37:=sizeOf172
 v37:=zeroValue172
 t70:=underlying171
 a70:=isAgg171
 z70:=sizeOf171
 v70:=zeroValue171
 t72:=underlying174
 a72:=isAgg174
 z72:=sizeOf174
 v72:=zeroValue174
 t127:=underlying199
 a127:=isAgg199
 z127:=sizeOf199
 v127:=zeroValue199 }
theorem Tryz.Builder_Extra_169:Builder.Extra prog Tryz.lays169_ren:={
 sizeBuilder:=by kernel_rfl
 liesBuilder:=by kernel_rfl
 t5:=underlying5
 a5:=isAgg5
 z5:=sizeOf5
 v5:=zeroValue5
 infoByte:=by kernel_rfl
 cellsByte:=by kernel_rfl
 sizeByte:=by kernel_rfl
 neB5:=by decide }
def Tryz.lays156_ren:Go.Shelf.Ren:=⟨fun|156=>55|165=>89|166=>90|169=>91|240=>118|241=>119|276=>146|277=>147|n=>n,fun|31=>32|9=>9|3=>3|4=>4|0=>0|20=>20|72=>174|76=>176|70=>171|37=>172|75=>25|127=>199|164=>100|5=>5|80=>114|n=>n,fun|n=>n⟩
theorem Tryz.lays156:Go.Proofs.Lays.n156 prog Tryz.lays156_ren:={
 mixed:=by kernel_rfl
 f156:=Ct func55
 f165:=Ct func89
 f166:=Ct func90
 f169:=Ct func91
 f240:=Ct func118
 f241:=Ct func119
 f276:=Ct func146
 f277:=Ct func147
 t0:=underlying0
 a0:=isAgg0
 z0:=sizeOf0
 v0:=zeroValue0
 t3:=underlying3
 a3:=isAgg3
 z3:=sizeOf3
 v3:=zeroValue3
 t4:=underlying4
 a4:=isAgg4
 z4:=sizeOf4
 v4:=zeroValue4
 t9:=underlying9
 a9:=isAgg9
 z9:=sizeOf9
 v9:=zeroValue9
 t20:=underlying20
 a20:=isAgg20
 z20:=sizeOf20
 v20:=zeroValue20
 t31:=underlying32
 a31:=isAgg32
 z31:=sizeOf32
 v31:=zeroValue32
 t37:=underlying172
 a37:=isAgg172
 z37:=sizeOf172
 v37:=zeroValue172
 t70:=underlying171
 a70:=isAgg171
 z70:=sizeOf171
 v70:=zeroValue171
 t72:=underlying174
 a72:=isAgg174
 z72:=sizeOf174
 v72:=zeroValue174
 t75:=underlying25
 a75:=isAgg25
 z75:=sizeOf25
 v75:=zeroValue25
 t76:=underlying176
 a76:=isAgg176
 z76:=sizeOf176
 v76:=zeroValue176
 t127:=underlying199
 a127:=isAgg199
 z127:=sizeOf199
 v127:=zeroValue199
 t164:=underlying100
 a164:=isAgg100
 z164:=sizeOf100
 v164:=zeroValue100 }
theorem Tryz.Builder_Extra_156:Builder.Extra prog Tryz.lays156_ren:={
 sizeBuilder:=by kernel_rfl
 liesBuilder:=by kernel_rfl
 t5:=underlying5
 a5:=isAgg5
 z5:=sizeOf5
 v5:=zeroValue5
 infoByte:=by kernel_rfl
 cellsByte:=by kernel_rfl
 sizeByte:=by kernel_rfl
 neB5:=by decide }
open Go.RowKit in
theorem Tryz.strings_Join_none (a:Option Addr) (c:Nat) (sep:ByteArray) (w:World) :
  Calls prog 55 #[.slice a 0 c,.string sep] w fun e w'=>e=.returned (.string ⟨#[]⟩)∧w' = w:=Any.strings_Join_none Tryz.lays156 Tryz.Builder_Extra_156 a c sep w
open Go.RowKit in
theorem Tryz.strings_Join (bk o c:Nat) (xs:List ByteArray) (sep:ByteArray) (w:World) (hcells:∀ (j:Nat) x,xs[j]? = some x→w.cell? ⟨bk,o+j,none⟩=some (.string x)) (hbk:bk < w.heap.size) (hN:xs.length≤140737488355328) (hcap:xs.length≤c) (hlen:(Lib.join (xs.map (·.data.toList)) sep.data.toList).length≤140737488355328) :
  Calls prog 55 #[.slice (some ⟨bk,o,none⟩) xs.length c,.string sep] w fun e w'=>e=.returned (.string ⟨(Lib.join (xs.map (·.data.toList)) sep.data.toList).toArray⟩)∧Below w.heap.size w w':=Any.strings_Join Tryz.lays156 Tryz.Builder_Extra_156 bk o c xs sep w hcells hbk hN hcap hlen
def Tryz.lays161_ren:Go.Shelf.Ren:=⟨fun|161=>152|231=>176|227=>177|233=>178|235=>179|228=>200|197=>201|151=>73|260=>214|152=>101|137=>123|119=>124|224=>125|225=>126|217=>149|266=>175|n=>n,fun|9=>9|4=>4|3=>3|5=>5|117=>270|116=>269|0=>0|124=>273|105=>300|21=>21|119=>258|46=>185|139=>261|138=>260|n=>n,fun|3=>5|4=>6|n=>n⟩
theorem Tryz.lays161:Go.Proofs.Lays.n161 prog Tryz.lays161_ren:={
 mixed:=by kernel_rfl
 f119:=Ct func124
 f137:=Ct func123
 f151:=Ct func73
 f152:=Ct func101
 f161:=Ct func152
 f197:=Ct func201
 f217:=Ct func149
 f224:=Ct func125
 f225:=Ct func126
 f227:=Ct func177
 f228:=Ct func200
 f231:=Ct func176
 f233:=Ct func178
 f235:=Ct func179
 f260:=Ct func214
 f266:=Ct func175
 t0:=underlying0
 a0:=isAgg0
 z0:=sizeOf0
 v0:=zeroValue0
 t3:=underlying3
 a3:=isAgg3
 z3:=sizeOf3
 v3:=zeroValue3
 t4:=underlying4
 a4:=isAgg4
 z4:=sizeOf4
 v4:=zeroValue4
 t5:=underlying5
 a5:=isAgg5
 z5:=sizeOf5
 v5:=zeroValue5
 t9:=underlying9
 a9:=isAgg9
 z9:=sizeOf9
 v9:=zeroValue9
 t21:=underlying21
 a21:=isAgg21
 z21:=sizeOf21
 v21:=zeroValue21
 t46:=underlying185
 a46:=isAgg185
 z46:=sizeOf185
 v46:=zeroValue185
 t105:=underlying300
 a105:=isAgg300
 z105:=sizeOf300
 v105:=zeroValue300
 t116:=underlying269
 a116:=isAgg269
 z116:=sizeOf269
 t117:=underlying270
 a117:=isAgg270
 z117:=sizeOf270
 v117:=zeroValue270
 t119:=underlying258
 a119:=isAgg258
 z119:=sizeOf258
 t124:=underlying273
 a124:=isAgg273
 z124:=sizeOf273
 v124:=zeroValue273
 t138:=underlying260
 a138:=isAgg260
 z138:=sizeOf260
 v138:=zeroValue260
 t139:=underlying261
 a139:=isAgg261
 z139:=sizeOf261
 v139:=zeroValue261
 g3:=by kernel_rfl
 g4:=by kernel_rfl }
open Go.RowKit in
theorem Tryz.strings_TrimLeft_one (s:ByteArray) (c:UInt8) (hc:c.toNat < 128) (w:World) :
  Calls prog 152 #[.string s,.string ⟨#[c]⟩] w fun e w'=>e=.returned (.string ⟨(Lib.trimLeftB s.data.toList c).toArray⟩)∧w' = w:=Any.strings_TrimLeft_one Tryz.lays161 s c hc w
def Tryz.lays162_ren:Go.Shelf.Ren:=⟨fun|162=>153|232=>180|227=>177|234=>181|236=>182|228=>200|271=>202|151=>73|120=>215|197=>201|152=>101|260=>214|137=>123|119=>124|224=>125|225=>126|217=>149|266=>175|n=>n,fun|9=>9|4=>4|3=>3|5=>5|117=>270|116=>269|0=>0|124=>273|21=>21|105=>300|46=>185|119=>258|139=>261|138=>260|n=>n,fun|3=>5|4=>6|n=>n⟩
theorem Tryz.lays162:Go.Proofs.Lays.n162 prog Tryz.lays162_ren:={
 mixed:=by kernel_rfl
 f119:=Ct func124
 f120:=Ct func215
 f137:=Ct func123
 f151:=Ct func73
 f152:=Ct func101
 f162:=Ct func153
 f197:=Ct func201
 f217:=Ct func149
 f224:=Ct func125
 f225:=Ct func126
 f227:=Ct func177
 f228:=Ct func200
 f232:=Ct func180
 f234:=Ct func181
 f236:=Ct func182
 f260:=Ct func214
 f266:=Ct func175
 f271:=Ct func202
 t0:=underlying0
 a0:=isAgg0
 z0:=sizeOf0
 v0:=zeroValue0
 t3:=underlying3
 a3:=isAgg3
 z3:=sizeOf3
 v3:=zeroValue3
 t4:=underlying4
 a4:=isAgg4
 z4:=sizeOf4
 v4:=zeroValue4
 t5:=underlying5
 a5:=isAgg5
 z5:=sizeOf5
 v5:=zeroValue5
 t9:=underlying9
 a9:=isAgg9
 z9:=sizeOf9
 v9:=zeroValue9
 t21:=underlying21
 a21:=isAgg21
 z21:=sizeOf21
 v21:=zeroValue21
 t46:=underlying185
 a46:=isAgg185
 z46:=sizeOf185
 v46:=zeroValue185
 t105:=underlying300
 a105:=isAgg300
 z105:=sizeOf300
 v105:=zeroValue300
 t116:=underlying269
 a116:=isAgg269
 z116:=sizeOf269
 t117:=underlying270
 a117:=isAgg270
 z117:=sizeOf270
 v117:=zeroValue270
 t119:=underlying258
 a119:=isAgg258
 z119:=sizeOf258
 t124:=underlying273
 a124:=isAgg273
 z124:=sizeOf273
 v124:=zeroValue273
 t138:=underlying260
 a138:=isAgg260
 z138:=sizeOf260
 v138:=zeroValue260
 t139:=underlying261
 a139:=isAgg261
 z139:=sizeOf261
 v139:=zeroValue261
 g3:=by kernel_rfl
 g4:=by kernel_rfl }
open Go.RowKit in
theorem Tryz.strings_TrimRight_one (s:ByteArray) (c:UInt8) (hc:c.toNat < 128) (w:World) (hs:s.size≤9223372036854775807) :
  Calls prog 153 #[.string s,.string ⟨#[c]⟩] w fun e w'=>e=.returned (.string ⟨(Lib.trimRightB s.data.toList c).toArray⟩)∧w' = w:=Any.strings_TrimRight_one Tryz.lays162 s c hc w hs
def Tryz.lays118_ren:Go.Shelf.Ren:=⟨fun|118=>66|n=>n,fun|21=>21|3=>3|4=>4|n=>n,fun|n=>n⟩
theorem Tryz.lays118:Go.Proofs.Lays.n118 prog Tryz.lays118_ren:={
 mixed:=by kernel_rfl
 f118:=Ct func66
 t3:=underlying3
 a3:=isAgg3
 z3:=sizeOf3
 v3:=zeroValue3
 t4:=underlying4
 a4:=isAgg4
 z4:=sizeOf4
 v4:=zeroValue4
 t21:=underlying21
 a21:=isAgg21
 z21:=sizeOf21
 v21:=zeroValue21 }
theorem Tryz.utf8_RuneLen (r:Int) (w:World) :
  Calls prog 66 #[.int .i32 r] w fun e w'=>e=.returned (.int .i64 (Lib.runeLen r))∧w' = w:=Any.utf8_RuneLen Tryz.lays118 r w
def Tryz.lays119_ren:Go.Shelf.Ren:=⟨fun|119=>124|n=>n,fun|21=>21|4=>4|n=>n,fun|n=>n⟩
theorem Tryz.lays119:Go.Proofs.Lays.n119 prog Tryz.lays119_ren:={
 mixed:=by kernel_rfl
 f119:=Ct func124
 t4:=underlying4
 a4:=isAgg4
 z4:=sizeOf4
 v4:=zeroValue4
 t21:=underlying21
 a21:=isAgg21
 z21:=sizeOf21
 v21:=zeroValue21 }
theorem Tryz.utf8_ValidRune (r:Int) (w:World) :
  Calls prog 124 #[.int .i32 r] w fun e w'=>e=.returned (.bool (Lib.validRune r))∧w' = w:=Any.utf8_ValidRune Tryz.lays119 r w
def Tryz.lays134_ren:Go.Shelf.Ren:=⟨fun|134=>212|129=>162|n=>n,fun|53=>85|3=>3|4=>4|46=>185|5=>5|9=>9|n=>n,fun|n=>n⟩
theorem Tryz.lays134:Go.Proofs.Lays.n134 prog Tryz.lays134_ren:={
 mixed:=by kernel_rfl
 f129:=Ct func162
 f134:=Ct func212
 t3:=underlying3
 a3:=isAgg3
 z3:=sizeOf3
 v3:=zeroValue3
 t4:=underlying4
 a4:=isAgg4
 z4:=sizeOf4
 v4:=zeroValue4
 t5:=underlying5
 a5:=isAgg5
 z5:=sizeOf5
 v5:=zeroValue5
 t9:=underlying9
 a9:=isAgg9
 z9:=sizeOf9
 v9:=zeroValue9
 t46:=underlying185
 a46:=isAgg185
 z46:=sizeOf185
 v46:=zeroValue185
 t53:=underlying85
 a53:=isAgg85
 z53:=sizeOf85
 v53:=zeroValue85 }
theorem Tryz.bits_LeadingZeros64 (x:Int) (w:World) (h0:0≤x) (h1:x≤18446744073709551615) :
  Calls prog 212 #[.int .u64 x] w fun e w'=>e=.returned (.int .i64 (64 - (Lib.bitLen x.toNat:Int)))∧w' = w:=Any.bits_LeadingZeros64 Tryz.lays134 x w h0 h1
def Tryz.lays137_ren:Go.Shelf.Ren:=⟨fun|137=>123|217=>149|266=>175|n=>n,fun|9=>9|5=>5|3=>3|n=>n,fun|n=>n⟩
theorem Tryz.lays137:Go.Proofs.Lays.n137 prog Tryz.lays137_ren:={
 mixed:=by kernel_rfl
 f137:=Ct func123
 f217:=Ct func149
 f266:=Ct func175
 t3:=underlying3
 a3:=isAgg3
 z3:=sizeOf3
 v3:=zeroValue3
 t5:=underlying5
 a5:=isAgg5
 z5:=sizeOf5
 v5:=zeroValue5
 t9:=underlying9
 a9:=isAgg9
 z9:=sizeOf9
 v9:=zeroValue9 }
open Go.RowKit in
theorem Tryz.strings_IndexByte (s:ByteArray) (c:Int) (w:World) :
  Calls prog 123 #[.string s,.int .u8 c] w fun e w'=>e=.returned (.int .i64 (Lib.indexByte s.data.toList c.toNat.toUInt8))∧w' = w:=Any.strings_IndexByte Tryz.lays137 s c w
def Tryz.lays210_ren:Go.Shelf.Ren:=⟨fun|210=>150|206=>98|n=>n,fun|9=>9|4=>4|3=>3|n=>n,fun|n=>n⟩
def Tryz.lays103_ren:Go.Shelf.Ren:=⟨fun|103=>128|210=>150|206=>98|n=>n,fun|9=>9|4=>4|24=>123|3=>3|n=>n,fun|n=>n⟩
theorem Tryz.lays103:Go.Proofs.Lays.n103 prog Tryz.lays103_ren:={
 mixed:=by kernel_rfl
 f103:=Ct func128
 f206:=Ct func98
 f210:=Ct func150
 t3:=underlying3
 a3:=isAgg3
 z3:=sizeOf3
 v3:=zeroValue3
 t4:=underlying4
 a4:=isAgg4
 z4:=sizeOf4
 v4:=zeroValue4
 t9:=underlying9
 a9:=isAgg9
 z9:=sizeOf9
 v9:=zeroValue9
 t24:=underlying123
 a24:=isAgg123
 z24:=sizeOf123
 v24:=zeroValue123 }
open Go.RowKit in
theorem Tryz.strings_CutPrefix (s p:ByteArray) (w:World) :
  Calls prog 128 #[.string s,.string p] w fun e w'=>e=.returned (.tuple #[.string ⟨(Lib.trimPrefix s.data.toList p.data.toList).toArray⟩,.bool (Lib.hasPrefix s.data.toList p.data.toList)])∧w' = w:=Any.strings_CutPrefix Tryz.lays103 s p w
open Go.RowKit in
theorem Tryz.Builder_String_any_f (B b:Nat) (l:List UInt8) (w:World) (h:Lib.IsBuilderF 174 5 B b (Lib.byteCells l) w) (hBw:B≤w.heap.size) :
  Calls prog 91 #[.pointer (some ⟨b,0,none⟩)] w fun e w'=>e=.returned (.string ⟨l.toArray⟩)∧(Lib.IsBuilderF 174 5 B b (Lib.byteCells l) w'∧Below B w w'):=Any.Builder_String_any_f Tryz.lays169 Tryz.Builder_Extra_169 B b l w h hBw
def Tryz.lays283_ren:Go.Shelf.Ren:=⟨fun|283=>135|n=>n,fun|3=>3|9=>9|4=>4|n=>n,fun|n=>n⟩
theorem Tryz.lays283:Go.Proofs.Lays.n283 prog Tryz.lays283_ren:={
 mixed:=by kernel_rfl
 f283:=Ct func135
 t3:=underlying3
 a3:=isAgg3
 z3:=sizeOf3
 v3:=zeroValue3
 t4:=underlying4
 a4:=isAgg4
 z4:=sizeOf4
 v4:=zeroValue4
 t9:=underlying9
 a9:=isAgg9
 z9:=sizeOf9
 v9:=zeroValue9 }
open Go.Lib in
theorem Tryz.internal_strconv_small (i:Nat) (h:i < 100) (w:World) :
  Calls prog 135 #[.int .i64 i] w fun e w'=>e=.returned (.string ⟨(Lib.decDigits i).toArray⟩)∧w' = w:=Any.internal_strconv_small Tryz.lays283 i h w
def Tryz.laysM284_ren:Go.Shelf.Ren:=⟨fun|284=>136|129=>162|317=>161|318=>163|n=>n,fun|53=>85|3=>3|212=>252|0=>0|4=>4|46=>185|5=>5|9=>9|n=>n,fun|17=>4|n=>n⟩
theorem Tryz.laysM284:Go.Proofs.LaysM.n284 prog Tryz.laysM284_ren:={
 mixed:=by kernel_rfl
 f129:=Ct func162
 f284:=Ct func136
 f317:=Ct func161
 f318:=Ct func163
 t0:=underlying0
 a0:=isAgg0
 z0:=sizeOf0
 v0:=zeroValue0
 t3:=underlying3
 a3:=isAgg3
 z3:=sizeOf3
 v3:=zeroValue3
 t4:=underlying4
 a4:=isAgg4
 z4:=sizeOf4
 v4:=zeroValue4
 t5:=underlying5
 a5:=isAgg5
 z5:=sizeOf5
 v5:=zeroValue5
 t9:=underlying9
 a9:=isAgg9
 z9:=sizeOf9
 v9:=zeroValue9
 t46:=underlying185
 a46:=isAgg185
 z46:=sizeOf185
 v46:=zeroValue185
 t53:=underlying85
 a53:=isAgg85
 z53:=sizeOf85
 v53:=zeroValue85
 t212:=underlying252
 a212:=isAgg252
 z212:=sizeOf252
 v212:=zeroValue252
 g17:=by kernel_rfl
 i0:=by kernel_rfl
 i3:=by kernel_rfl
 i4:=by kernel_rfl
 i5:=by kernel_rfl
 i9:=by kernel_rfl
 i46:=by kernel_rfl
 i53:=by kernel_rfl
 i212:=by kernel_rfl
 m17:=by kernel_rfl }
open Go.Lib in
theorem Tryz.internal_strconv_numDigits (u : Nat) (h1 : 1 ≤ u) (h2 : u < 18446744073709551616) (w : World) (htab : Lib.TabIs prog w "internal/strconv.uint64pow10" .u64 Lib.pow10Tab) :
  Calls prog 136 #[.int .u64 u] w fun e w'=>e=.returned (.int .i64 (Lib.nDigits u))∧w' = w:=Any.internal_strconv_numDigits Tryz.laysM284 u h1 h2 w htab
def Tryz.lays285_ren:Go.Shelf.Ren:=⟨fun|285=>137|n=>n,fun|37=>172|53=>85|3=>3|4=>4|51=>69|9=>9|5=>5|0=>0|n=>n,fun|n=>n⟩
theorem Tryz.lays285:Go.Proofs.Lays.n285 prog Tryz.lays285_ren:={
 mixed:=by kernel_rfl
 f285:=Ct func137
 t0:=underlying0
 a0:=isAgg0
 z0:=sizeOf0
 v0:=zeroValue0
 t3:=underlying3
 a3:=isAgg3
 z3:=sizeOf3
 v3:=zeroValue3
 t4:=underlying4
 a4:=isAgg4
 z4:=sizeOf4
 v4:=zeroValue4
 t5:=underlying5
 a5:=isAgg5
 z5:=sizeOf5
 v5:=zeroValue5
 t9:=underlying9
 a9:=isAgg9
 z9:=sizeOf9
 v9:=zeroValue9
 t37:=underlying172
 a37:=isAgg172
 z37:=sizeOf172
 v37:=zeroValue172
 t51:=underlying69
 a51:=isAgg69
 z51:=sizeOf69
 v51:=zeroValue69
 t53:=underlying85
 a53:=isAgg85
 z53:=sizeOf85
 v53:=zeroValue85 }
open Go.RowKit Go.Sort Go.Lib in
theorem Tryz.internal_strconv_formatBase10 (blk off cap:Nat) (u:Nat) (d:Array UInt8) (w:World) (hH:Holds (fun (b:UInt8)=>Value.int .u8 (b.toNat:Int)) w blk off d) (hu:u < 10 ^ d.size) (hu64:u < 18446744073709551616) (hsz:d.size < 4611686018427387904) :
  Calls prog 137 #[.slice (some ⟨blk,off,none⟩) d.size cap,.int .u64 u] w fun e w'=>
   e=.returned (.tuple #[])∧∃ (n v':Nat) (dk:Array UInt8),w' = (putRow (fun (b:UInt8)=>Value.int .u8 (b.toNat:Int)) w blk off dk).drewN n∧FmtInv d.size u 0 v' dk:=Any.internal_strconv_formatBase10 Tryz.lays285 blk off cap u d w hH hu hu64 hsz
def Tryz.laysM246_ren:Go.Shelf.Ren:=⟨fun|246=>107|283=>135|284=>136|285=>137|286=>138|129=>162|317=>161|318=>163|319=>164|320=>165|337=>187|338=>188|n=>n,fun|2=>2|3=>3|9=>9|4=>4|171=>213|0=>0|53=>85|37=>172|5=>5|173=>216|212=>252|51=>69|20=>20|213=>253|46=>185|232=>304|233=>305|n=>n,fun|17=>4|18=>7|19=>8|n=>n⟩
def Tryz.laysM243_ren:Go.Shelf.Ren:=⟨fun|243=>114|246=>107|283=>135|284=>136|285=>137|286=>138|129=>162|317=>161|318=>163|319=>164|320=>165|337=>187|338=>188|n=>n,fun|3=>3|9=>9|2=>2|4=>4|171=>213|0=>0|53=>85|37=>172|5=>5|173=>216|212=>252|51=>69|20=>20|213=>253|46=>185|232=>304|233=>305|n=>n,fun|17=>4|18=>7|19=>8|n=>n⟩
def Tryz.laysM171_ren:Go.Shelf.Ren:=⟨fun|171=>87|243=>114|246=>107|283=>135|284=>136|285=>137|286=>138|129=>162|317=>161|318=>163|319=>164|320=>165|337=>187|338=>188|n=>n,fun|3=>3|9=>9|2=>2|4=>4|171=>213|0=>0|53=>85|37=>172|5=>5|173=>216|212=>252|51=>69|20=>20|213=>253|46=>185|232=>304|233=>305|n=>n,fun|17=>4|18=>7|19=>8|n=>n⟩
theorem Tryz.laysM171:Go.Proofs.LaysM.n171 prog Tryz.laysM171_ren:={
 mixed:=by kernel_rfl
 f129:=Ct func162
 f171:=Ct func87
 f243:=Ct func114
 f246:=Ct func107
 f283:=Ct func135
 f284:=Ct func136
 f285:=Ct func137
 f286:=Ct func138
 f317:=Ct func161
 f318:=Ct func163
 f319:=Ct func164
 f320:=Ct func165
 f337:=Ct func187
 f338:=Ct func188
 t0:=underlying0
 a0:=isAgg0
 z0:=sizeOf0
 v0:=zeroValue0
 t2:=underlying2
 a2:=isAgg2
 z2:=sizeOf2
 v2:=zeroValue2
 t3:=underlying3
 a3:=isAgg3
 z3:=sizeOf3
 v3:=zeroValue3
 t4:=underlying4
 a4:=isAgg4
 z4:=sizeOf4
 v4:=zeroValue4
 t5:=underlying5
 a5:=isAgg5
 z5:=sizeOf5
 v5:=zeroValue5
 t9:=underlying9
 a9:=isAgg9
 z9:=sizeOf9
 v9:=zeroValue9
 t20:=underlying20
 a20:=isAgg20
 z20:=sizeOf20
 v20:=zeroValue20
 t37:=underlying172
 a37:=isAgg172
 z37:=sizeOf172
 v37:=zeroValue172
 t46:=underlying185
 a46:=isAgg185
 z46:=sizeOf185
 v46:=zeroValue185
 t51:=underlying69
 a51:=isAgg69
 z51:=sizeOf69
 v51:=zeroValue69
 t53:=underlying85
 a53:=isAgg85
 z53:=sizeOf85
 v53:=zeroValue85
 t171:=underlying213
 a171:=isAgg213
 z171:=sizeOf213
 v171:=zeroValue213
 t173:=underlying216
 a173:=isAgg216
 z173:=sizeOf216
 v173:=zeroValue216
 t212:=underlying252
 a212:=isAgg252
 z212:=sizeOf252
 v212:=zeroValue252
 t213:=underlying253
 a213:=isAgg253
 z213:=sizeOf253
 t232:=underlying304
 a232:=isAgg304
 z232:=sizeOf304
 v232:=zeroValue304
 t233:=underlying305
 a233:=isAgg305
 z233:=sizeOf305
 v233:=zeroValue305
 g17:=by kernel_rfl
 g18:=by kernel_rfl
 g19:=by kernel_rfl
 i0:=by kernel_rfl
 i2:=by kernel_rfl
 i3:=by kernel_rfl
 i4:=by kernel_rfl
 i5:=by kernel_rfl
 i9:=by kernel_rfl
 i20:=by kernel_rfl
 i37:=by kernel_rfl
 i46:=by kernel_rfl
 i51:=by kernel_rfl
 i53:=by kernel_rfl
 i171:=by kernel_rfl
 i173:=by kernel_rfl
 i212:=by kernel_rfl
 i232:=by kernel_rfl
 i233:=by kernel_rfl
 m17:=by kernel_rfl
 m18:=by kernel_rfl
 m19:=by kernel_rfl }
open Go.RowKit Go.Sort Go.Lib in
theorem Tryz.strconv_Itoa (n : Int) (h0 : -9223372036854775808 ≤ n) (h1 : n ≤ 9223372036854775807) (w : World) (htab : Lib.TabIs prog w "internal/strconv.uint64pow10" .u64 Lib.pow10Tab) :
  Calls prog 87 #[.int .i64 n] w fun e w'=>e=.returned (.string ⟨(Lib.itoa n).toArray⟩)∧∃ k os,w' = grow (w.drewN k) os:=Any.strconv_Itoa Tryz.laysM171 n h0 h1 w htab
def Tryz.laysM173_ren:Go.Shelf.Ren:=⟨fun|173=>81|246=>107|283=>135|284=>136|285=>137|286=>138|129=>162|317=>161|318=>163|319=>164|320=>165|337=>187|338=>188|n=>n,fun|2=>2|3=>3|9=>9|4=>4|171=>213|0=>0|53=>85|37=>172|5=>5|173=>216|212=>252|51=>69|20=>20|213=>253|46=>185|232=>304|233=>305|n=>n,fun|17=>4|18=>7|19=>8|n=>n⟩
theorem Tryz.laysM173:Go.Proofs.LaysM.n173 prog Tryz.laysM173_ren:={
 mixed:=by kernel_rfl
 f129:=Ct func162
 f173:=Ct func81
 f246:=Ct func107
 f283:=Ct func135
 f284:=Ct func136
 f285:=Ct func137
 f286:=Ct func138
 f317:=Ct func161
 f318:=Ct func163
 f319:=Ct func164
 f320:=Ct func165
 f337:=Ct func187
 f338:=Ct func188
 t0:=underlying0
 a0:=isAgg0
 z0:=sizeOf0
 v0:=zeroValue0
 t2:=underlying2
 a2:=isAgg2
 z2:=sizeOf2
 v2:=zeroValue2
 t3:=underlying3
 a3:=isAgg3
 z3:=sizeOf3
 v3:=zeroValue3
 t4:=underlying4
 a4:=isAgg4
 z4:=sizeOf4
 v4:=zeroValue4
 t5:=underlying5
 a5:=isAgg5
 z5:=sizeOf5
 v5:=zeroValue5
 t9:=underlying9
 a9:=isAgg9
 z9:=sizeOf9
 v9:=zeroValue9
 t20:=underlying20
 a20:=isAgg20
 z20:=sizeOf20
 v20:=zeroValue20
 t37:=underlying172
 a37:=isAgg172
 z37:=sizeOf172
 v37:=zeroValue172
 t46:=underlying185
 a46:=isAgg185
 z46:=sizeOf185
 v46:=zeroValue185
 t51:=underlying69
 a51:=isAgg69
 z51:=sizeOf69
 v51:=zeroValue69
 t53:=underlying85
 a53:=isAgg85
 z53:=sizeOf85
 v53:=zeroValue85
 t171:=underlying213
 a171:=isAgg213
 z171:=sizeOf213
 v171:=zeroValue213
 t173:=underlying216
 a173:=isAgg216
 z173:=sizeOf216
 v173:=zeroValue216
 t212:=underlying252
 a212:=isAgg252
 z212:=sizeOf252
 v212:=zeroValue252
 t213:=underlying253
 a213:=isAgg253
 z213:=sizeOf253
 t232:=underlying304
 a232:=isAgg304
 z232:=sizeOf304
 v232:=zeroValue304
 t233:=underlying305
 a233:=isAgg305
 z233:=sizeOf305
 v233:=zeroValue305
 g17:=by kernel_rfl
 g18:=by kernel_rfl
 g19:=by kernel_rfl
 i0:=by kernel_rfl
 i2:=by kernel_rfl
 i3:=by kernel_rfl
 i4:=by kernel_rfl
 i5:=by kernel_rfl
 i9:=by kernel_rfl
 i20:=by kernel_rfl
 i37:=by kernel_rfl
 i46:=by kernel_rfl
 i51:=by kernel_rfl
 i53:=by kernel_rfl
 i171:=by kernel_rfl
 i173:=by kernel_rfl
 i212:=by kernel_rfl
 i232:=by kernel_rfl
 i233:=by kernel_rfl
 m17:=by kernel_rfl
 m18:=by kernel_rfl
 m19:=by kernel_rfl }
open Go.RowKit Go.Sort Go.Lib in
theorem Tryz.strconv_FormatInt_10 (n : Int) (h0 : -9223372036854775808 ≤ n) (h1 : n ≤ 9223372036854775807) (w : World) (htab : Lib.TabIs prog w "internal/strconv.uint64pow10" .u64 Lib.pow10Tab) :
  Calls prog 81 #[.int .i64 n,.int .i64 10] w fun e w'=>e=.returned (.string ⟨(Lib.itoa n).toArray⟩)∧∃ k os,w' = grow (w.drewN k) os:=Any.strconv_FormatInt_10 Tryz.laysM173 n h0 h1 w htab
def Tryz.laysC245_ren:Go.Shelf.Ren:=⟨fun|245=>106|279=>131|280=>132|281=>133|282=>134|316=>159|171=>87|205=>160|243=>114|246=>107|283=>135|284=>136|285=>137|286=>138|129=>162|317=>161|318=>163|319=>164|320=>165|337=>187|338=>188|n=>n,fun|9=>9|3=>3|75=>25|167=>209|4=>4|168=>210|210=>250|37=>172|0=>0|127=>199|145=>280|143=>278|2=>2|171=>213|53=>85|5=>5|173=>216|212=>252|51=>69|20=>20|213=>253|46=>185|232=>304|233=>305|80=>114|n=>n,fun|15=>2|16=>3|17=>4|18=>7|19=>8|n=>n⟩
def Tryz.laysC174_ren:Go.Shelf.Ren:=⟨fun|174=>80|247=>105|245=>106|287=>130|279=>131|280=>132|281=>133|282=>134|321=>157|322=>158|316=>159|171=>87|205=>160|243=>114|246=>107|283=>135|284=>136|285=>137|286=>138|129=>162|317=>161|318=>163|319=>164|320=>165|337=>187|338=>188|n=>n,fun|9=>9|3=>3|2=>2|75=>25|85=>162|4=>4|167=>209|5=>5|53=>85|175=>204|46=>185|168=>210|37=>172|0=>0|210=>250|21=>21|127=>199|145=>280|143=>278|171=>213|173=>216|212=>252|51=>69|20=>20|213=>253|232=>304|233=>305|80=>114|n=>n,fun|15=>2|16=>3|17=>4|18=>7|19=>8|n=>n⟩
theorem Tryz.laysC174:Go.Proofs.LaysC.n174 prog Tryz.laysC174_ren:={
 mixed:=by kernel_rfl
 f129:=Ct func162
 f171:=Ct func87
 f174:=Ct func80
 f205:=Ct func160
 f243:=Ct func114
 f245:=Ct func106
 f246:=Ct func107
 f247:=Ct func105
 f279:=Ct func131
 f280:=Ct func132
 f281:=Ct func133
 f282:=Ct func134
 f283:=Ct func135
 f284:=Ct func136
 f285:=Ct func137
 f286:=Ct func138
 f287:=Ct func130
 f316:=Ct func159
 f317:=Ct func161
 f318:=Ct func163
 f319:=Ct func164
 f320:=Ct func165
 f321:=Ct func157
 f322:=Ct func158
 f337:=Ct func187
 f338:=Ct func188
 t0:=underlying0
 a0:=isAgg0
 z0:=sizeOf0
 v0:=zeroValue0
 t2:=underlying2
 a2:=isAgg2
 z2:=sizeOf2
 v2:=zeroValue2
 t3:=underlying3
 a3:=isAgg3
 z3:=sizeOf3
 v3:=zeroValue3
 t4:=underlying4
 a4:=isAgg4
 z4:=sizeOf4
 v4:=zeroValue4
 t5:=underlying5
 a5:=isAgg5
 z5:=sizeOf5
 v5:=zeroValue5
 t9:=underlying9
 a9:=isAgg9
 z9:=sizeOf9
 v9:=zeroValue9
 t20:=underlying20
 a20:=isAgg20
 z20:=sizeOf20
 v20:=zeroValue20
 t21:=underlying21
 a21:=isAgg21
 z21:=sizeOf21
 v21:=zeroValue21
 t37:=underlying172
 a37:=isAgg172
 z37:=sizeOf172
 v37:=zeroValue172
 t46:=underlying185
 a46:=isAgg185
 z46:=sizeOf185
 v46:=zeroValue185
 t51:=underlying69
 a51:=isAgg69
 z51:=sizeOf69
 v51:=zeroValue69
 t53:=underlying85
 a53:=isAgg85
 z53:=sizeOf85
 v53:=zeroValue85
 t75:=underlying25
 a75:=isAgg25
 z75:=sizeOf25
 v75:=zeroValue25
 t85:=underlying162
 a85:=isAgg162
 z85:=sizeOf162
 v85:=zeroValue162
 t127:=underlying199
 a127:=isAgg199
 z127:=sizeOf199
 v127:=zeroValue199
 t143:=underlying278
 a143:=isAgg278
 z143:=sizeOf278
 v143:=zeroValue278
 t145:=underlying280
 a145:=isAgg280
 z145:=sizeOf280
 v145:=zeroValue280
 t167:=underlying209
 a167:=isAgg209
 z167:=sizeOf209
 v167:=zeroValue209
 t168:=underlying210
 a168:=isAgg210
 z168:=sizeOf210
 v168:=zeroValue210
 t171:=underlying213
 a171:=isAgg213
 z171:=sizeOf213
 v171:=zeroValue213
 t173:=underlying216
 a173:=isAgg216
 z173:=sizeOf216
 v173:=zeroValue216
 t175:=underlying204
 a175:=isAgg204
 z175:=sizeOf204
 v175:=zeroValue204
 t210:=underlying250
 a210:=isAgg250
 z210:=sizeOf250
 v210:=zeroValue250
 t212:=underlying252
 a212:=isAgg252
 z212:=sizeOf252
 v212:=zeroValue252
 t213:=underlying253
 a213:=isAgg253
 z213:=sizeOf253
 t232:=underlying304
 a232:=isAgg304
 z232:=sizeOf304
 v232:=zeroValue304
 t233:=underlying305
 a233:=isAgg305
 z233:=sizeOf305
 v233:=zeroValue305
 g15:=by kernel_rfl
 g16:=by kernel_rfl
 g17:=by kernel_rfl
 g18:=by kernel_rfl
 g19:=by kernel_rfl
 t80:=underlying114
 a80:=isAgg114
 z80:=sizeOf114
 v80:=zeroValue114
 i0:=by kernel_rfl
 i2:=by kernel_rfl
 i3:=by kernel_rfl
 i4:=by kernel_rfl
 i5:=by kernel_rfl
 i9:=by kernel_rfl
 i20:=by kernel_rfl
 i21:=by kernel_rfl
 i37:=by kernel_rfl
 i46:=by kernel_rfl
 i51:=by kernel_rfl
 i53:=by kernel_rfl
 i75:=by kernel_rfl
 i80:=by kernel_rfl
 i85:=by kernel_rfl
 i127:=by kernel_rfl
 i143:=by kernel_rfl
 i145:=by kernel_rfl
 i167:=by kernel_rfl
 i168:=by kernel_rfl
 i171:=by kernel_rfl
 i173:=by kernel_rfl
 i175:=by kernel_rfl
 i210:=by kernel_rfl
 i212:=by kernel_rfl
 i232:=by kernel_rfl
 i233:=by kernel_rfl
 m15:=by kernel_rfl
 m16:=by kernel_rfl
 m17:=by kernel_rfl
 m18:=by kernel_rfl
 m19:=by kernel_rfl
 c0:=by kernel_rfl
 c2:=by kernel_rfl
 c3:=by kernel_rfl
 c4:=by kernel_rfl
 c5:=by kernel_rfl
 c9:=by kernel_rfl
 c20:=by kernel_rfl
 c21:=by kernel_rfl
 c37:=by kernel_rfl
 c46:=by kernel_rfl
 c51:=by kernel_rfl
 c53:=by kernel_rfl
 c75:=by kernel_rfl
 c80:=by kernel_rfl
 c85:=by kernel_rfl
 c127:=by kernel_rfl
 c143:=by kernel_rfl
 c145:=by kernel_rfl
 c167:=by kernel_rfl
 c168:=by kernel_rfl
 c171:=by kernel_rfl
 c173:=by kernel_rfl
 c175:=by kernel_rfl
 c210:=by kernel_rfl
 c212:=by kernel_rfl
 c213:=by kernel_rfl
 c232:=by kernel_rfl
 c233:=by kernel_rfl }
open Go.RowKit in
theorem Tryz.strconv_ParseInt_10_at64_ok (s:ByteArray) (hmax:s.size≤9223372036854775806) (v:Int) (h:Lib.parseIntB 64 s.data.toList=.ok v) (w:World) :
  Calls prog 80 #[.string s,.int .i64 10,.int .i64 64] w fun e w'=>e=.returned (.tuple #[.int .i64 v,.nilIface])∧(w' = w∨∃ t,w' = Lib.bytesWorld w 5 t):=Any.strconv_ParseInt_10_at64_ok Tryz.laysC174 s hmax v h w
open Go.RowKit in
theorem Tryz.strconv_ParseInt_10_at64_syntax (s:ByteArray) (hlim:s.size≤281474976710656) (h:Lib.parseIntB 64 s.data.toList=Lib.NumEnd.syntax) (ev:Value) (w:World) (hv:w.cell? ⟨2,0,none⟩=some ev) (hev:ev=.nilIface∨∃ te pe,ev=.iface te pe) :
  Calls prog 80 #[.string s,.int .i64 10,.int .i64 64] w fun e w'=>∃ N,e=.returned (.tuple #[.int .i64 (0),.iface 210 (.pointer (some ⟨N,0,none⟩))])∧w.heap.size≤N∧w'.heap[N]? = some (.cells #[.string ⟨#[80,97,114,115,101,73,110,116]⟩,.string s,ev] 250 (0,0))∧Below w.heap.size w w':=Any.strconv_ParseInt_10_at64_syntax Tryz.laysC174 s hlim h ev w hv hev
open Go.RowKit in
theorem Tryz.strconv_ParseInt_10_at64_range (s:ByteArray) (hlim:s.size≤281474976710656) (h:Lib.parseIntB 64 s.data.toList=.range) (ev:Value) (w:World) (hv:w.cell? ⟨3,0,none⟩=some ev) (hev:ev=.nilIface∨∃ te pe,ev=.iface te pe) :
  Calls prog 80 #[.string s,.int .i64 10,.int .i64 64] w fun e w'=>∃ N,e=.returned (.tuple #[.int .i64 (Lib.intSat 64 s.data.toList),.iface 210 (.pointer (some ⟨N,0,none⟩))])∧w.heap.size≤N∧w'.heap[N]? = some (.cells #[.string ⟨#[80,97,114,115,101,73,110,116]⟩,.string s,ev] 250 (0,0))∧Below w.heap.size w w':=Any.strconv_ParseInt_10_at64_range Tryz.laysC174 s hlim h ev w hv hev
def Tryz.laysPu14_ren:Go.Shelf.Ren:=⟨fun|14=>127|16=>130|17=>106|19=>157|20=>158|21=>131|22=>132|23=>133|24=>134|25=>159|27=>87|26=>160|28=>114|29=>107|30=>135|31=>136|32=>137|33=>138|35=>162|34=>161|36=>163|37=>164|38=>165|39=>187|40=>188|n=>n,fun|9=>9|3=>3|22=>85|24=>25|25=>204|4=>4|34=>209|5=>5|36=>185|37=>172|0=>0|39=>210|21=>21|44=>250|47=>199|50=>280|48=>278|2=>2|52=>213|55=>216|59=>252|60=>69|20=>20|61=>253|65=>304|66=>305|67=>114|n=>n,fun|0=>2|1=>3|2=>4|3=>7|4=>8|n=>n⟩
theorem Tryz.laysPu14:Go.Proofs.LaysPu.n14 prog Tryz.laysPu14_ren:={
 mixed:=by kernel_rfl
 f14:=Ct func127
 f16:=Ct func130
 f17:=Ct func106
 f19:=Ct func157
 f20:=Ct func158
 f21:=Ct func131
 f22:=Ct func132
 f23:=Ct func133
 f24:=Ct func134
 f25:=Ct func159
 f26:=Ct func160
 f27:=Ct func87
 f28:=Ct func114
 f29:=Ct func107
 f30:=Ct func135
 f31:=Ct func136
 f32:=Ct func137
 f33:=Ct func138
 f34:=Ct func161
 f35:=Ct func162
 f36:=Ct func163
 f37:=Ct func164
 f38:=Ct func165
 f39:=Ct func187
 f40:=Ct func188
 t0:=underlying0
 a0:=isAgg0
 z0:=sizeOf0
 v0:=zeroValue0
 i0:=by kernel_rfl
 t2:=underlying2
 a2:=isAgg2
 z2:=sizeOf2
 v2:=zeroValue2
 i2:=by kernel_rfl
 t3:=underlying3
 a3:=isAgg3
 z3:=sizeOf3
 v3:=zeroValue3
 i3:=by kernel_rfl
 t4:=underlying4
 a4:=isAgg4
 z4:=sizeOf4
 v4:=zeroValue4
 i4:=by kernel_rfl
 t5:=underlying5
 a5:=isAgg5
 z5:=sizeOf5
 v5:=zeroValue5
 i5:=by kernel_rfl
 t9:=underlying9
 a9:=isAgg9
 z9:=sizeOf9
 v9:=zeroValue9
 i9:=by kernel_rfl
 t20:=underlying20
 a20:=isAgg20
 z20:=sizeOf20
 v20:=zeroValue20
 i20:=by kernel_rfl
 t21:=underlying21
 a21:=isAgg21
 z21:=sizeOf21
 v21:=zeroValue21
 i21:=by kernel_rfl
 t22:=underlying85
 a22:=isAgg85
 z22:=sizeOf85
 v22:=zeroValue85
 i22:=by kernel_rfl
 t24:=underlying25
 a24:=isAgg25
 z24:=sizeOf25
 v24:=zeroValue25
 i24:=by kernel_rfl
 t25:=underlying204
 a25:=isAgg204
 z25:=sizeOf204
 v25:=zeroValue204
 i25:=by kernel_rfl
 t34:=underlying209
 a34:=isAgg209
 z34:=sizeOf209
 v34:=zeroValue209
 i34:=by kernel_rfl
 c34:=by kernel_rfl
 t36:=underlying185
 a36:=isAgg185
 z36:=sizeOf185
 v36:=zeroValue185
 i36:=by kernel_rfl
 t37:=underlying172
 a37:=isAgg172
 z37:=sizeOf172
 v37:=zeroValue172
 i37:=by kernel_rfl
 t39:=underlying210
 a39:=isAgg210
 z39:=sizeOf210
 v39:=zeroValue210
 i39:=by kernel_rfl
 t44:=underlying250
 a44:=isAgg250
 z44:=sizeOf250
 v44:=zeroValue250
 i44:=by kernel_rfl
 t47:=underlying199
 a47:=isAgg199
 z47:=sizeOf199
 v47:=zeroValue199
 i47:=by kernel_rfl
 t48:=underlying278
 a48:=isAgg278
 z48:=sizeOf278
 v48:=zeroValue278
 i48:=by kernel_rfl
 t50:=underlying280
 a50:=isAgg280
 z50:=sizeOf280
 v50:=zeroValue280
 i50:=by kernel_rfl
 t52:=underlying213
 a52:=isAgg213
 z52:=sizeOf213
 v52:=zeroValue213
 i52:=by kernel_rfl
 t55:=underlying216
 a55:=isAgg216
 z55:=sizeOf216
 v55:=zeroValue216
 i55:=by kernel_rfl
 t59:=underlying252
 a59:=isAgg252
 z59:=sizeOf252
 v59:=zeroValue252
 i59:=by kernel_rfl
 t60:=underlying69
 a60:=isAgg69
 z60:=sizeOf69
 v60:=zeroValue69
 i60:=by kernel_rfl
 t61:=underlying253
 a61:=isAgg253
 z61:=sizeOf253
 t65:=underlying304
 a65:=isAgg304
 z65:=sizeOf304
 v65:=zeroValue304
 i65:=by kernel_rfl
 t66:=underlying305
 a66:=isAgg305
 z66:=sizeOf305
 v66:=zeroValue305
 i66:=by kernel_rfl
 t67:=underlying114
 a67:=isAgg114
 z67:=sizeOf114
 v67:=zeroValue114
 i67:=by kernel_rfl
 g0:=by kernel_rfl
 m0:=by kernel_rfl
 g1:=by kernel_rfl
 m1:=by kernel_rfl
 g2:=by kernel_rfl
 m2:=by kernel_rfl
 g3:=by kernel_rfl
 m3:=by kernel_rfl
 g4:=by kernel_rfl
 m4:=by kernel_rfl }
open Go.RowKit in
theorem Tryz.strconv_ParseUint_10_at64_ok (s:ByteArray) (hmax:s.size≤9223372036854775806) (u:Nat) (h:Lib.parseUintB 64 s.data.toList=.ok u) (w:World) :
  Calls prog 127 #[.string s,.int .i64 10,.int .i64 64] w fun e w'=>e=.returned (.tuple #[.int .u64 u,.nilIface])∧(w' = w∨w' = Lib.bytesWorld w 5 s):=Any.strconv_ParseUint_10_at64_ok Tryz.laysPu14 s hmax u h w
open Go.RowKit in
theorem Tryz.strconv_ParseUint_10_at64_syntax (s:ByteArray) (hlim:s.size≤281474976710656) (h:Lib.parseUintB 64 s.data.toList=Lib.NumEnd.syntax) (ev:Value) (w:World) (hv:w.cell? ⟨2,0,none⟩=some ev) (hev:ev=.nilIface∨∃ te pe,ev=.iface te pe) :
  Calls prog 127 #[.string s,.int .i64 10,.int .i64 64] w fun e w'=>∃ N,e=.returned (.tuple #[.int .u64 0,.iface 210 (.pointer (some ⟨N,0,none⟩))])∧w.heap.size≤N∧w'.heap[N]? = some (.cells #[.string ⟨#[80,97,114,115,101,85,105,110,116]⟩,.string s,ev] 250 (0,0))∧Below w.heap.size w w':=Any.strconv_ParseUint_10_at64_syntax Tryz.laysPu14 s hlim h ev w hv hev
open Go.RowKit in
theorem Tryz.strconv_ParseUint_10_at64_range (s:ByteArray) (hlim:s.size≤281474976710656) (h:Lib.parseUintB 64 s.data.toList=.range) (ev:Value) (w:World) (hv:w.cell? ⟨3,0,none⟩=some ev) (hev:ev=.nilIface∨∃ te pe,ev=.iface te pe) :
  Calls prog 127 #[.string s,.int .i64 10,.int .i64 64] w fun e w'=>∃ N,e=.returned (.tuple #[.int .u64 18446744073709551615,.iface 210 (.pointer (some ⟨N,0,none⟩))])∧w.heap.size≤N∧w'.heap[N]? = some (.cells #[.string ⟨#[80,97,114,115,101,85,105,110,116]⟩,.string s,ev] 250 (0,0))∧Below w.heap.size w w':=Any.strconv_ParseUint_10_at64_range Tryz.laysPu14 s hlim h ev w hv hev
def Tryz.lays219_ren:Go.Shelf.Ren:=⟨fun|219=>199|217=>149|225=>126|224=>125|267=>213|266=>175|314=>225|n=>n,fun|9=>9|3=>3|4=>4|5=>5|46=>185|146=>302|51=>69|n=>n,fun|1=>1|n=>n⟩
def Tryz.lays144_ren:Go.Shelf.Ren:=⟨fun|144=>145|143=>174|219=>199|217=>149|225=>126|224=>125|267=>213|266=>175|314=>225|n=>n,fun|9=>9|4=>4|3=>3|5=>5|46=>185|146=>302|51=>69|n=>n,fun|1=>1|n=>n⟩
theorem Tryz.lays144:Go.Proofs.Lays.n144 prog Tryz.lays144_ren:={
 mixed:=by kernel_rfl
 f143:=Ct func174
 f144:=Ct func145
 f217:=Ct func149
 f219:=Ct func199
 f224:=Ct func125
 f225:=Ct func126
 f266:=Ct func175
 f267:=Ct func213
 f314:=Ct func225
 t3:=underlying3
 a3:=isAgg3
 z3:=sizeOf3
 v3:=zeroValue3
 t4:=underlying4
 a4:=isAgg4
 z4:=sizeOf4
 v4:=zeroValue4
 t5:=underlying5
 a5:=isAgg5
 z5:=sizeOf5
 v5:=zeroValue5
 t9:=underlying9
 a9:=isAgg9
 z9:=sizeOf9
 v9:=zeroValue9
 t46:=underlying185
 a46:=isAgg185
 z46:=sizeOf185
 v46:=zeroValue185
 t51:=underlying69
 a51:=isAgg69
 z51:=sizeOf69
 v51:=zeroValue69
 t146:=underlying302
 a146:=isAgg302
 z146:=sizeOf302
 v146:=zeroValue302
 g1:=by kernel_rfl }
open Go.RowKit Go.Lib in
theorem Tryz.strings_Contains_one (s:ByteArray) (c:UInt8) (w:World) :
  Calls prog 145 #[.string s,.string ⟨#[c]⟩] w fun e w'=>e=.returned (.bool (decide (0≤Lib.indexByte s.data.toList c)))∧w' = w:=Any.strings_Contains_one Tryz.lays144 s c w
def Tryz.lays138_ren:Go.Shelf.Ren:=⟨fun|138=>287|195=>288|218=>289|143=>174|219=>199|217=>149|225=>126|224=>125|267=>213|266=>175|314=>225|n=>n,fun|9=>9|3=>3|4=>4|5=>5|0=>0|46=>185|146=>302|51=>69|n=>n,fun|1=>1|n=>n⟩
theorem Tryz.lays138:Go.Proofs.Lays.n138 prog Tryz.lays138_ren:={
 mixed:=by kernel_rfl
 f138:=Ct func287
 f143:=Ct func174
 f195:=Ct func288
 f217:=Ct func149
 f218:=Ct func289
 f219:=Ct func199
 f224:=Ct func125
 f225:=Ct func126
 f266:=Ct func175
 f267:=Ct func213
 f314:=Ct func225
 t0:=underlying0
 a0:=isAgg0
 z0:=sizeOf0
 v0:=zeroValue0
 t3:=underlying3
 a3:=isAgg3
 z3:=sizeOf3
 v3:=zeroValue3
 t4:=underlying4
 a4:=isAgg4
 z4:=sizeOf4
 v4:=zeroValue4
 t5:=underlying5
 a5:=isAgg5
 z5:=sizeOf5
 v5:=zeroValue5
 t9:=underlying9
 a9:=isAgg9
 z9:=sizeOf9
 v9:=zeroValue9
 t46:=underlying185
 a46:=isAgg185
 z46:=sizeOf185
 v46:=zeroValue185
 t51:=underlying69
 a51:=isAgg69
 z51:=sizeOf69
 v51:=zeroValue69
 t146:=underlying302
 a146:=isAgg302
 z146:=sizeOf302
 v146:=zeroValue302
 g1:=by kernel_rfl }
open Go.RowKit Go.Lib in
theorem Tryz.strings_Count_one (s:ByteArray) (c:UInt8) (w:World) :
  Calls prog 287 #[.string s,.string ⟨#[c]⟩] w fun e w'=>e=.returned (.int .i64 (Lib.countByte s.data.toList c))∧w' = w:=Any.strings_Count_one Tryz.lays138 s c w
def Tryz.laysGw17_ren:Go.Shelf.Ren:=⟨fun|17=>142|15=>170|20=>195|n=>n,fun|9=>9|23=>141|4=>4|3=>3|0=>0|21=>21|n=>n,fun|n=>n⟩
theorem Tryz.laysGw17:Go.Proofs.LaysGw.n17 prog Tryz.laysGw17_ren:={
 mixed:=by kernel_rfl
 f15:=Ct func170
 f17:=Ct func142
 f20:=Ct func195
 t0:=underlying0
 a0:=isAgg0
 z0:=sizeOf0
 v0:=zeroValue0
 i0:=by kernel_rfl
 t3:=underlying3
 a3:=isAgg3
 z3:=sizeOf3
 v3:=zeroValue3
 i3:=by kernel_rfl
 t4:=underlying4
 a4:=isAgg4
 z4:=sizeOf4
 v4:=zeroValue4
 i4:=by kernel_rfl
 t9:=underlying9
 a9:=isAgg9
 z9:=sizeOf9
 v9:=zeroValue9
 i9:=by kernel_rfl
 t21:=underlying21
 a21:=isAgg21
 z21:=sizeOf21
 v21:=zeroValue21
 i21:=by kernel_rfl
 t23:=underlying141
 a23:=isAgg141
 z23:=sizeOf141
 v23:=zeroValue141
 i23:=by kernel_rfl }
open Go.RowKit Go.Lib in
theorem Tryz.strings_ContainsFunc (g:Nat) (lb:Array Value) (eg:∀ args w,(callFunc g args).run prog w=.ok (.enter g args) w) (p:Nat→Bool) (s:ByteArray) (w:World) (hp:PredAt prog g lb encR p w) :
  Calls prog 142 #[.string s,.func (.func g) #[] lb] w fun e w'=>e=.returned (.bool (decide (0≤Lib.idxFunc p true s)))∧Below w.heap.size w w':=Any.strings_ContainsFunc Tryz.laysGw17 g lb eg p s w hp
def Tryz.lays99_ren:Go.Shelf.Ren:=⟨fun|99=>65|206=>98|n=>n,fun|9=>9|4=>4|3=>3|n=>n,fun|n=>n⟩
theorem Tryz.lays99:Go.Proofs.Lays.n99 prog Tryz.lays99_ren:={
 mixed:=by kernel_rfl
 f99:=Ct func65
 f206:=Ct func98
 t3:=underlying3
 a3:=isAgg3
 z3:=sizeOf3
 v3:=zeroValue3
 t4:=underlying4
 a4:=isAgg4
 z4:=sizeOf4
 v4:=zeroValue4
 t9:=underlying9
 a9:=isAgg9
 z9:=sizeOf9
 v9:=zeroValue9 }
open Go.RowKit Go.Lib in
theorem Tryz.strings_HasPrefix (s p:ByteArray) (w:World) :
  Calls prog 65 #[.string s,.string p] w fun e w'=>e=.returned (.bool (Lib.hasPrefix s.data.toList p.data.toList))∧w' = w:=Any.strings_HasPrefix Tryz.lays99 s p w
def Tryz.lays151_ren:Go.Shelf.Ren:=⟨fun|151=>73|152=>101|137=>123|119=>124|224=>125|225=>126|217=>149|266=>175|n=>n,fun|9=>9|21=>21|4=>4|3=>3|5=>5|0=>0|46=>185|n=>n,fun|n=>n⟩
theorem Tryz.lays151:Go.Proofs.Lays.n151 prog Tryz.lays151_ren:={
 mixed:=by kernel_rfl
 f119:=Ct func124
 f137:=Ct func123
 f151:=Ct func73
 f152:=Ct func101
 f217:=Ct func149
 f224:=Ct func125
 f225:=Ct func126
 f266:=Ct func175
 t0:=underlying0
 a0:=isAgg0
 z0:=sizeOf0
 v0:=zeroValue0
 t3:=underlying3
 a3:=isAgg3
 z3:=sizeOf3
 v3:=zeroValue3
 t4:=underlying4
 a4:=isAgg4
 z4:=sizeOf4
 v4:=zeroValue4
 t5:=underlying5
 a5:=isAgg5
 z5:=sizeOf5
 v5:=zeroValue5
 t9:=underlying9
 a9:=isAgg9
 z9:=sizeOf9
 v9:=zeroValue9
 t21:=underlying21
 a21:=isAgg21
 z21:=sizeOf21
 v21:=zeroValue21
 t46:=underlying185
 a46:=isAgg185
 z46:=sizeOf185
 v46:=zeroValue185 }
open Go.RowKit Go.Lib in
theorem Tryz.strings_ContainsRune_ascii (s:ByteArray) (r:Int) (w:World) (h0:0≤r) (h1:r < 128) :
  Calls prog 73 #[.string s,.int .i32 r] w fun e w'=>e=.returned (.bool (decide (0≤Lib.indexByte s.data.toList r.toNat.toUInt8)))∧w' = w:=Any.strings_ContainsRune_ascii Tryz.lays151 s r w h0 h1
def Tryz.lays264_ren:Go.Shelf.Ren:=⟨fun|264=>197|n=>n,fun|53=>85|46=>185|n=>n,fun|n=>n⟩
theorem Tryz.lays264:Go.Proofs.Lays.n264 prog Tryz.lays264_ren:={
 mixed:=by kernel_rfl
 f264:=Ct func197
 t46:=underlying185
 a46:=isAgg185
 z46:=sizeOf185
 v46:=zeroValue185
 t53:=underlying85
 a53:=isAgg85
 z53:=sizeOf85
 v53:=zeroValue85 }
open Go.RowKit Go.Lib in
theorem Tryz.bits_Mul64 (x y:Nat) (hx:x < 18446744073709551616) (hy:y < 18446744073709551616) (w:World) :
  Calls prog 197 #[.int .u64 x,.int .u64 y] w fun e w'=>e=.returned (.tuple #[.int .u64 ((x*y / 18446744073709551616:Nat):Int),.int .u64 ((x*y % 18446744073709551616:Nat):Int)])∧w' = w:=Any.bits_Mul64 Tryz.lays264 x y hx hy w
def Tryz.lays105_ren:Go.Shelf.Ren:=⟨fun|105=>154|212=>183|99=>65|165=>89|166=>90|170=>184|169=>91|263=>203|264=>197|206=>98|240=>118|241=>119|276=>146|277=>147|n=>n,fun|9=>9|3=>3|4=>4|20=>20|0=>0|46=>185|109=>274|5=>5|72=>174|76=>176|51=>69|146=>302|53=>85|148=>265|70=>171|37=>172|75=>25|127=>199|164=>100|80=>114|n=>n,fun|n=>n⟩
theorem Tryz.lays105:Go.Proofs.Lays.n105 prog Tryz.lays105_ren:={
 mixed:=by kernel_rfl
 f99:=Ct func65
 f105:=Ct func154
 f165:=Ct func89
 f166:=Ct func90
 f169:=Ct func91
 f170:=Ct func184
 f206:=Ct func98
 f212:=Ct func183
 f240:=Ct func118
 f241:=Ct func119
 f263:=Ct func203
 f264:=Ct func197
 f276:=Ct func146
 f277:=Ct func147
 t0:=underlying0
 a0:=isAgg0
 z0:=sizeOf0
 v0:=zeroValue0
 t3:=underlying3
 a3:=isAgg3
 z3:=sizeOf3
 v3:=zeroValue3
 t4:=underlying4
 a4:=isAgg4
 z4:=sizeOf4
 v4:=zeroValue4
 t5:=underlying5
 a5:=isAgg5
 z5:=sizeOf5
 v5:=zeroValue5
 t9:=underlying9
 a9:=isAgg9
 z9:=sizeOf9
 v9:=zeroValue9
 t20:=underlying20
 a20:=isAgg20
 z20:=sizeOf20
 v20:=zeroValue20
 t37:=underlying172
 a37:=isAgg172
 z37:=sizeOf172
 v37:=zeroValue172
 t46:=underlying185
 a46:=isAgg185
 z46:=sizeOf185
 v46:=zeroValue185
 t51:=underlying69
 a51:=isAgg69
 z51:=sizeOf69
 v51:=zeroValue69
 t53:=underlying85
 a53:=isAgg85
 z53:=sizeOf85
 v53:=zeroValue85
 t70:=underlying171
 a70:=isAgg171
 z70:=sizeOf171
 v70:=zeroValue171
 t72:=underlying174
 a72:=isAgg174
 z72:=sizeOf174
 v72:=zeroValue174
 t75:=underlying25
 a75:=isAgg25
 z75:=sizeOf25
 v75:=zeroValue25
 t76:=underlying176
 a76:=isAgg176
 z76:=sizeOf176
 v76:=zeroValue176
 t109:=underlying274
 a109:=isAgg274
 z109:=sizeOf274
 v109:=zeroValue274
 t127:=underlying199
 a127:=isAgg199
 z127:=sizeOf199
 v127:=zeroValue199
 t146:=underlying302
 a146:=isAgg302
 z146:=sizeOf302
 v146:=zeroValue302
 t148:=underlying265
 a148:=isAgg265
 z148:=sizeOf265
 v148:=zeroValue265
 t164:=underlying100
 a164:=isAgg100
 z164:=sizeOf100
 v164:=zeroValue100 }
theorem Tryz.Builder_Extra_105:Builder.Extra prog Tryz.lays105_ren:={
 sizeBuilder:=by kernel_rfl
 liesBuilder:=by kernel_rfl
 t5:=underlying5
 a5:=isAgg5
 z5:=sizeOf5
 v5:=zeroValue5
 infoByte:=by kernel_rfl
 cellsByte:=by kernel_rfl
 sizeByte:=by kernel_rfl
 neB5:=by decide }
open Go.RowKit Go.Lib in
theorem Tryz.strings_Repeat (s:ByteArray) (c:Nat) (w:World) (hc:c≤9223372036854775807) (hlen:s.size*c≤140737488355328) :
  Calls prog 154 #[.string s,.int .i64 c] w fun e w'=>e=.returned (.string ⟨(Lib.repeatL s.data.toList c).toArray⟩)∧Below w.heap.size w w':=Any.strings_Repeat Tryz.lays105 Tryz.Builder_Extra_105 s c w hc hlen
end Go.Proofs
namespace Go.Proofs
open Go.Proofs.Tryz
open Go.Shelf
def Tryz.lays196_ren:Go.Shelf.Ren:=⟨fun|196=>141|259=>169|n=>n,fun|9=>9|4=>4|3=>3|5=>5|12=>12|119=>258|0=>0|46=>185|139=>261|138=>260|53=>85|n=>n,fun|3=>5|4=>6|n=>n⟩
theorem Tryz.lays196:Go.Proofs.Lays.n196 prog Tryz.lays196_ren:={
 mixed:=by kernel_rfl
 f196:=func141.trans (congrArg some (by kernel_rfl))
 f259:=func169.trans (congrArg some (by kernel_rfl))
 t0:=underlying0
 a0:=isAgg0
 z0:=sizeOf0
 v0:=zeroValue0
 t3:=underlying3
 a3:=isAgg3
 z3:=sizeOf3
 v3:=zeroValue3
 t4:=underlying4
 a4:=isAgg4
 z4:=sizeOf4
 v4:=zeroValue4
 t5:=underlying5
 a5:=isAgg5
 z5:=sizeOf5
 v5:=zeroValue5
 t9:=underlying9
 a9:=isAgg9
 z9:=sizeOf9
 v9:=zeroValue9
 t12:=underlying12
 a12:=isAgg12
 z12:=sizeOf12
 v12:=zeroValue12
 t46:=underlying185
 a46:=isAgg185
 z46:=sizeOf185
 v46:=zeroValue185
 t53:=underlying85
 a53:=isAgg85
 z53:=sizeOf85
 v53:=zeroValue85
 t119:=underlying258
 a119:=isAgg258
 z119:=sizeOf258
 t138:=underlying260
 a138:=isAgg260
 z138:=sizeOf260
 v138:=zeroValue260
 t139:=underlying261
 a139:=isAgg261
 z139:=sizeOf261
 v139:=zeroValue261
 g3:=by kernel_rfl
 g4:=by kernel_rfl }
end Go.Proofs
