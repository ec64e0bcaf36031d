/-
  The library's contracts at this program, laid by the kit's tools.
-/
import Derived.Test.YtfflljgnpfldfaaGreatDoorBaseD
import Derived.Shelf.Strings.Trim
import Derived.Shelf.Small.Wraps
import Derived.Shelf.Strconv.Itoa4
import Derived.Shelf.Strconv.ErrVarParseInt
import Derived.Shelf.Pu.ErrVarParseUint
import Derived.Shelf.GgClosure.StringsRunes
import Derived.Shelf.Unicode.Decode
import Derived.Shelf.Strings.Runes
import Derived.Shelf.Strings.AsciiSet
import Derived.Shelf.Strings.Repeat
import Derived.Shelf.Strings.FuncGrows
import Derived.Shelf.Strings.BuilderCap
import Derived.Shelf.Slices.Clone
import Derived.Test.YtfflljgnpfldfaaGreatDoorProg
import Derived.Shelf.Unicode.ValidAny
set_option linter.all false
namespace Go.Proofs
open Go.Proofs.YtfflljgnpfldfaaGreatDoor
open Go.Proofs.Tryz
theorem Ly {p:Prop} (h:p:=by constructor<;>intros<;>first|kernel_rfl|decide|(constructor<;>intros<;>first|kernel_rfl|decide|(constructor<;>intros<;>first|kernel_rfl|decide))):p:=h
theorem Ct {α:Type} {x:Option α} {a b:α} (h:x=some a) (e:a=b:=by kernel_rfl):x=some b:=h.trans (jA some e)
open Go.Shelf
def Tryz.ait:Go.Shelf.Ren:=⟨fun|169=>185|n=>n,fun|70=>289|9=>9|0=>0|72=>291|37=>199|127=>327|3=>3|5=>5|n=>n,fun|n=>n⟩
theorem Tryz.atn:Go.Proofs.Lays.n169 prog Tryz.ait:=Ly
theorem Tryz.Ml:Builder.Extra prog Tryz.ait:=Ly
def Tryz.ato:Go.Shelf.Ren:=⟨fun|161=>218|231=>243|227=>244|233=>245|235=>246|228=>263|197=>264|151=>137|260=>273|152=>170|137=>186|119=>187|224=>188|225=>189|217=>214|266=>242|n=>n,fun|9=>9|4=>4|3=>3|5=>5|117=>360|116=>359|0=>0|124=>363|105=>376|21=>21|119=>352|46=>276|139=>355|138=>354|n=>n,fun|3=>5|4=>6|n=>n⟩
theorem Tryz.atp:Go.Proofs.Lays.n161 prog Tryz.ato:=Ly
open Go.RowKit in
theorem Tryz.strings_TrimLeft_one (s:ByteArray) (c:UInt8) (hc:c.toNat < 128) (w:World) :
  Calls prog 218 #[.string s,.string ⟨#[c]⟩] w fun e w'=>e=.returned (.string ⟨(Lib.trimLeftB s.data.toList c).toArray⟩)∧w' = w:=Any.strings_TrimLeft_one Tryz.atp s c hc w
def Tryz.atq:Go.Shelf.Ren:=⟨fun|162=>219|232=>247|227=>244|234=>248|236=>249|228=>263|271=>265|151=>137|120=>274|197=>264|152=>170|260=>273|137=>186|119=>187|224=>188|225=>189|217=>214|266=>242|n=>n,fun|9=>9|4=>4|3=>3|5=>5|117=>360|116=>359|0=>0|124=>363|21=>21|105=>376|46=>276|119=>352|139=>355|138=>354|n=>n,fun|3=>5|4=>6|n=>n⟩
theorem Tryz.atr:Go.Proofs.Lays.n162 prog Tryz.atq:=Ly
open Go.RowKit in
theorem Tryz.strings_TrimRight_one (s:ByteArray) (c:UInt8) (hc:c.toNat < 128) (w:World) (hs:s.size≤9223372036854775807) :
  Calls prog 219 #[.string s,.string ⟨#[c]⟩] w fun e w'=>e=.returned (.string ⟨(Lib.trimRightB s.data.toList c).toArray⟩)∧w' = w:=Any.strings_TrimRight_one Tryz.atr s c hc w hs
def Tryz.att:Go.Shelf.Ren:=⟨fun|118=>130|n=>n,fun|21=>21|3=>3|4=>4|n=>n,fun|n=>n⟩
theorem Tryz.atu:Go.Proofs.Lays.n118 prog Tryz.att:=Ly
theorem Tryz.utf8_RuneLen (r:Int) (w:World) :
  Calls prog 130 #[.int .i32 r] w fun e w'=>e=.returned (.int .i64 (Lib.runeLen r))∧w' = w:=Any.utf8_RuneLen Tryz.atu r w
def Tryz.atv:Go.Shelf.Ren:=⟨fun|119=>187|n=>n,fun|21=>21|4=>4|n=>n,fun|n=>n⟩
theorem Tryz.atw:Go.Proofs.Lays.n119 prog Tryz.atv:=Ly
theorem Tryz.utf8_ValidRune (r:Int) (w:World) :
  Calls prog 187 #[.int .i32 r] w fun e w'=>e=.returned (.bool (Lib.validRune r))∧w' = w:=Any.utf8_ValidRune Tryz.atw r w
def Tryz.atx:Go.Shelf.Ren:=⟨fun|137=>186|217=>214|266=>242|n=>n,fun|9=>9|5=>5|3=>3|n=>n,fun|n=>n⟩
theorem Tryz.aty:Go.Proofs.Lays.n137 prog Tryz.atx:=Ly
open Go.RowKit in
theorem Tryz.strings_IndexByte (s:ByteArray) (c:Int) (w:World) :
  Calls prog 186 #[.string s,.int .u8 c] w fun e w'=>e=.returned (.int .i64 (Lib.indexByte s.data.toList c.toNat.toUInt8))∧w' = w:=Any.strings_IndexByte Tryz.aty s c w
def Tryz.av7:Go.Shelf.Ren:=⟨fun|210=>216|206=>166|n=>n,fun|9=>9|4=>4|3=>3|n=>n,fun|n=>n⟩
def Tryz.atz:Go.Shelf.Ren:=⟨fun|103=>192|210=>216|206=>166|n=>n,fun|9=>9|4=>4|24=>299|3=>3|n=>n,fun|n=>n⟩
theorem Tryz.atA:Go.Proofs.Lays.n103 prog Tryz.atz:=Ly
open Go.RowKit in
theorem Tryz.strings_CutPrefix (s p:ByteArray) (w:World) :
  Calls prog 192 #[.string s,.string p] w fun e w'=>e=.returned (.tuple #[.string ⟨(Lib.trimPrefix s.data.toList p.data.toList).toArray⟩,.bool (Lib.hasPrefix s.data.toList p.data.toList)])∧w' = w:=Any.strings_CutPrefix Tryz.atA s p w
open Go.RowKit in
theorem Tryz.Builder_String_any_f (B b:Nat) (l:List UInt8) (w:World) (h:Lib.IsBuilderF 291 5 B b (Lib.byteCells l) w) (hBw:B≤w.heap.size) :
  Calls prog 185 #[.pointer (some ⟨b,0,none⟩)] w fun e w'=>e=.returned (.string ⟨l.toArray⟩)∧(Lib.IsBuilderF 291 5 B b (Lib.byteCells l) w'∧Below B w w'):=Any.Builder_String_any_f Tryz.atn Tryz.Ml B b l w h hBw
def Tryz.atC:Go.Shelf.Ren:=⟨fun|283=>199|n=>n,fun|3=>3|9=>9|4=>4|n=>n,fun|n=>n⟩
theorem Tryz.atD:Go.Proofs.Lays.n283 prog Tryz.atC:=Ly
open Go.Lib in
theorem Tryz.internal_strconv_small (i:Nat) (h:i < 100) (w:World) :
  Calls prog 199 #[.int .i64 i] w fun e w'=>e=.returned (.string ⟨(Lib.decDigits i).toArray⟩)∧w' = w:=Any.internal_strconv_small Tryz.atD i h w
def Tryz.atE:Go.Shelf.Ren:=⟨fun|284=>200|129=>229|317=>228|318=>230|n=>n,fun|53=>59|3=>3|212=>341|0=>0|4=>4|46=>276|5=>5|9=>9|n=>n,fun|17=>4|n=>n⟩
theorem Tryz.atF:Go.Proofs.LaysM.n284 prog Tryz.atE:=Ly
open Go.Lib in
theorem Tryz.internal_strconv_numDigits (u : Nat) (h1 : 1 ≤ u) (h2 : u < 18446744073709551616) (w : World) (htab : Lib.TabIs prog w "internal/strconv.uint64pow10" .u64 Lib.pow10Tab) :
  Calls prog 200 #[.int .u64 u] w fun e w'=>e=.returned (.int .i64 (Lib.nDigits u))∧w' = w:=Any.internal_strconv_numDigits Tryz.atF u h1 h2 w htab
def Tryz.atG:Go.Shelf.Ren:=⟨fun|285=>201|n=>n,fun|37=>199|53=>59|3=>3|4=>4|51=>36|9=>9|5=>5|0=>0|n=>n,fun|n=>n⟩
theorem Tryz.atH:Go.Proofs.Lays.n285 prog Tryz.atG:=Ly
open Go.RowKit Go.Sort Go.Lib in
theorem Tryz.internal_strconv_formatBase10 (blk off cap:Nat) (u:Nat) (d:Array UInt8) (w:World) (hH:Holds (fun (b:UInt8)=>Value.int .u8 (b.toNat:Int)) w blk off d) (hu:u < 10 ^ d.size) (atI:u < 18446744073709551616) (hsz:d.size < 4611686018427387904) :
  Calls prog 201 #[.slice (some ⟨blk,off,none⟩) d.size cap,.int .u64 u] w fun e w'=>
   e=.returned (.tuple #[])∧∃ (n v':Nat) (dk:Array UInt8),w' = (putRow (fun (b:UInt8)=>Value.int .u8 (b.toNat:Int)) w blk off dk).drewN n∧FmtInv d.size u 0 v' dk:=Any.internal_strconv_formatBase10 Tryz.atH blk off cap u d w hH hu atI hsz
def Tryz.av8:Go.Shelf.Ren:=⟨fun|246=>176|283=>199|284=>200|285=>201|286=>202|129=>229|317=>228|318=>230|319=>231|320=>232|337=>257|338=>258|n=>n,fun|2=>2|3=>3|9=>9|4=>4|171=>308|0=>0|53=>59|37=>199|5=>5|173=>311|212=>341|51=>36|20=>20|213=>342|46=>276|232=>384|233=>385|n=>n,fun|17=>4|18=>7|19=>8|n=>n⟩
def Tryz.atJ:Go.Shelf.Ren:=⟨fun|173=>146|246=>176|283=>199|284=>200|285=>201|286=>202|129=>229|317=>228|318=>230|319=>231|320=>232|337=>257|338=>258|n=>n,fun|2=>2|3=>3|9=>9|4=>4|171=>308|0=>0|53=>59|37=>199|5=>5|173=>311|212=>341|51=>36|20=>20|213=>342|46=>276|232=>384|233=>385|n=>n,fun|17=>4|18=>7|19=>8|n=>n⟩
theorem Tryz.atK:Go.Proofs.LaysM.n173 prog Tryz.atJ:=Ly
open Go.RowKit Go.Sort Go.Lib in
theorem Tryz.strconv_FormatInt_10 (n : Int) (h0 : -9223372036854775808 ≤ n) (h1 : n ≤ 9223372036854775807) (w : World) (htab : Lib.TabIs prog w "internal/strconv.uint64pow10" .u64 Lib.pow10Tab) :
  Calls prog 146 #[.int .i64 n,.int .i64 10] w fun e w'=>e=.returned (.string ⟨(Lib.itoa n).toArray⟩)∧∃ k os,w' = grow (w.drewN k) os:=Any.strconv_FormatInt_10 Tryz.atK n h0 h1 w htab
def Tryz.av9:Go.Shelf.Ren:=⟨fun|245=>175|279=>195|280=>196|281=>197|282=>198|316=>225|171=>227|205=>226|243=>256|246=>176|283=>199|284=>200|285=>201|286=>202|129=>229|317=>228|318=>230|319=>231|320=>232|337=>257|338=>258|n=>n,fun|9=>9|3=>3|75=>54|167=>303|4=>4|168=>304|210=>339|37=>199|0=>0|127=>327|145=>372|143=>370|2=>2|171=>308|53=>59|5=>5|173=>311|212=>341|51=>36|20=>20|213=>342|46=>276|232=>384|233=>385|80=>131|n=>n,fun|15=>2|16=>3|17=>4|18=>7|19=>8|n=>n⟩
def Tryz.atL:Go.Shelf.Ren:=⟨fun|174=>145|247=>174|245=>175|287=>194|279=>195|280=>196|281=>197|282=>198|321=>223|322=>224|316=>225|171=>227|205=>226|243=>256|246=>176|283=>199|284=>200|285=>201|286=>202|129=>229|317=>228|318=>230|319=>231|320=>232|337=>257|338=>258|n=>n,fun|9=>9|3=>3|2=>2|75=>54|85=>251|4=>4|167=>303|5=>5|53=>59|175=>296|46=>276|168=>304|37=>199|0=>0|210=>339|21=>21|127=>327|145=>372|143=>370|171=>308|173=>311|212=>341|51=>36|20=>20|213=>342|232=>384|233=>385|80=>131|n=>n,fun|15=>2|16=>3|17=>4|18=>7|19=>8|n=>n⟩
theorem Tryz.aaN:Go.Proofs.LaysC.n174 prog Tryz.atL:=Ly
open Go.RowKit in
theorem Tryz.strconv_ParseInt_10_at64_ok (s:ByteArray) (hmax:s.size≤9223372036854775806) (v:Int) (h:Lib.parseIntB 64 s.data.toList=.ok v) (w:World) :
  Calls prog 145 #[.string s,.int .i64 10,.int .i64 64] w fun e w'=>e=.returned (.tuple #[.int .i64 v,.nilIface])∧(w' = w∨∃ t,w' = Lib.bytesWorld w 5 t):=Any.strconv_ParseInt_10_at64_ok Tryz.aaN s hmax v h w
open Go.RowKit in
theorem Tryz.strconv_ParseInt_10_at64_syntax (s:ByteArray) (Cl:s.size≤281474976710656) (h:Lib.parseIntB 64 s.data.toList=Lib.NumEnd.syntax) (ev:Value) (w:World) (hv:w.cell? ⟨2,0,none⟩=some ev) (hev:ev=.nilIface∨∃ te pe,ev=.iface te pe) :
  Calls prog 145 #[.string s,.int .i64 10,.int .i64 64] w fun e w'=>∃ N,e=.returned (.tuple #[.int .i64 (0),.iface 304 (.pointer (some ⟨N,0,none⟩))])∧w.heap.size≤N∧w'.heap[N]? = some (.cells #[.string ⟨#[80,97,114,115,101,73,110,116]⟩,.string s,ev] 339 (0,0))∧Below w.heap.size w w':=Any.strconv_ParseInt_10_at64_syntax Tryz.aaN s Cl h ev w hv hev
open Go.RowKit in
theorem Tryz.strconv_ParseInt_10_at64_range (s:ByteArray) (Cl:s.size≤281474976710656) (h:Lib.parseIntB 64 s.data.toList=.range) (ev:Value) (w:World) (hv:w.cell? ⟨3,0,none⟩=some ev) (hev:ev=.nilIface∨∃ te pe,ev=.iface te pe) :
  Calls prog 145 #[.string s,.int .i64 10,.int .i64 64] w fun e w'=>∃ N,e=.returned (.tuple #[.int .i64 (Lib.intSat 64 s.data.toList),.iface 304 (.pointer (some ⟨N,0,none⟩))])∧w.heap.size≤N∧w'.heap[N]? = some (.cells #[.string ⟨#[80,97,114,115,101,73,110,116]⟩,.string s,ev] 339 (0,0))∧Below w.heap.size w w':=Any.strconv_ParseInt_10_at64_range Tryz.aaN s Cl h ev w hv hev
def Tryz.atM:Go.Shelf.Ren:=⟨fun|14=>190|16=>194|17=>175|19=>223|20=>224|21=>195|22=>196|23=>197|24=>198|25=>225|27=>227|26=>226|28=>256|29=>176|30=>199|31=>200|32=>201|33=>202|35=>229|34=>228|36=>230|37=>231|38=>232|39=>257|40=>258|n=>n,fun|9=>9|3=>3|22=>59|24=>54|25=>296|4=>4|34=>303|5=>5|36=>276|37=>199|0=>0|39=>304|21=>21|44=>339|47=>327|50=>372|48=>370|2=>2|52=>308|55=>311|59=>341|60=>36|20=>20|61=>342|65=>384|66=>385|67=>131|n=>n,fun|0=>2|1=>3|2=>4|3=>7|4=>8|n=>n⟩
theorem Tryz.aaO:Go.Proofs.LaysPu.n14 prog Tryz.atM:=Ly
open Go.RowKit in
theorem Tryz.strconv_ParseUint_10_at64_ok (s:ByteArray) (hmax:s.size≤9223372036854775806) (u:Nat) (h:Lib.parseUintB 64 s.data.toList=.ok u) (w:World) :
  Calls prog 190 #[.string s,.int .i64 10,.int .i64 64] w fun e w'=>e=.returned (.tuple #[.int .u64 u,.nilIface])∧(w' = w∨w' = Lib.bytesWorld w 5 s):=Any.strconv_ParseUint_10_at64_ok Tryz.aaO s hmax u h w
open Go.RowKit in
theorem Tryz.strconv_ParseUint_10_at64_syntax (s:ByteArray) (Cl:s.size≤281474976710656) (h:Lib.parseUintB 64 s.data.toList=Lib.NumEnd.syntax) (ev:Value) (w:World) (hv:w.cell? ⟨2,0,none⟩=some ev) (hev:ev=.nilIface∨∃ te pe,ev=.iface te pe) :
  Calls prog 190 #[.string s,.int .i64 10,.int .i64 64] w fun e w'=>∃ N,e=.returned (.tuple #[.int .u64 0,.iface 304 (.pointer (some ⟨N,0,none⟩))])∧w.heap.size≤N∧w'.heap[N]? = some (.cells #[.string ⟨#[80,97,114,115,101,85,105,110,116]⟩,.string s,ev] 339 (0,0))∧Below w.heap.size w w':=Any.strconv_ParseUint_10_at64_syntax Tryz.aaO s Cl h ev w hv hev
open Go.RowKit in
theorem Tryz.strconv_ParseUint_10_at64_range (s:ByteArray) (Cl:s.size≤281474976710656) (h:Lib.parseUintB 64 s.data.toList=.range) (ev:Value) (w:World) (hv:w.cell? ⟨3,0,none⟩=some ev) (hev:ev=.nilIface∨∃ te pe,ev=.iface te pe) :
  Calls prog 190 #[.string s,.int .i64 10,.int .i64 64] w fun e w'=>∃ N,e=.returned (.tuple #[.int .u64 18446744073709551615,.iface 304 (.pointer (some ⟨N,0,none⟩))])∧w.heap.size≤N∧w'.heap[N]? = some (.cells #[.string ⟨#[80,97,114,115,101,85,105,110,116]⟩,.string s,ev] 339 (0,0))∧Below w.heap.size w w':=Any.strconv_ParseUint_10_at64_range Tryz.aaO s Cl h ev w hv hev
def Tryz.atN:Go.Shelf.Ren:=⟨fun|17=>213|15=>241|20=>262|n=>n,fun|9=>9|23=>187|4=>4|3=>3|0=>0|21=>21|n=>n,fun|n=>n⟩
theorem Tryz.atO:Go.Proofs.LaysGw.n17 prog Tryz.atN:=Ly
open Go.RowKit Go.Lib in
theorem Tryz.strings_ContainsFunc (g:Nat) (lb:Array Value) (eg:∀ args w,(callFunc g args).run prog w=.ok (.enter g args) w) (p:Nat→Bool) (s:ByteArray) (w:World) (hp:PredAt prog g lb encR p w) :
  Calls prog 213 #[.string s,.func (.func g) #[] lb] w fun e w'=>e=.returned (.bool (decide (0≤Lib.idxFunc p true s)))∧Below w.heap.size w w':=Any.strings_ContainsFunc Tryz.atO g lb eg p s w hp
def Tryz.atP:Go.Shelf.Ren:=⟨fun|99=>129|206=>166|n=>n,fun|9=>9|4=>4|3=>3|n=>n,fun|n=>n⟩
theorem Tryz.atQ:Go.Proofs.Lays.n99 prog Tryz.atP:=Ly
open Go.RowKit Go.Lib in
theorem Tryz.strings_HasPrefix (s p:ByteArray) (w:World) :
  Calls prog 129 #[.string s,.string p] w fun e w'=>e=.returned (.bool (Lib.hasPrefix s.data.toList p.data.toList))∧w' = w:=Any.strings_HasPrefix Tryz.atQ s p w
def Tryz.atS:Go.Shelf.Ren:=⟨fun|151=>137|152=>170|137=>186|119=>187|224=>188|225=>189|217=>214|266=>242|n=>n,fun|9=>9|21=>21|4=>4|3=>3|5=>5|0=>0|46=>276|n=>n,fun|n=>n⟩
theorem Tryz.atT:Go.Proofs.Lays.n151 prog Tryz.atS:=Ly
open Go.RowKit Go.Lib in
theorem Tryz.strings_ContainsRune_ascii (s:ByteArray) (r:Int) (w:World) (h0:0≤r) (h1:r < 128) :
  Calls prog 137 #[.string s,.int .i32 r] w fun e w'=>e=.returned (.bool (decide (0≤Lib.indexByte s.data.toList r.toNat.toUInt8)))∧w' = w:=Any.strings_ContainsRune_ascii Tryz.atT s r w h0 h1
def Tryz.atU:Go.Shelf.Ren:=⟨fun|264=>267|n=>n,fun|53=>59|46=>276|n=>n,fun|n=>n⟩
theorem Tryz.atV:Go.Proofs.Lays.n264 prog Tryz.atU:=Ly
open Go.RowKit Go.Lib in
theorem Tryz.bits_Mul64 (x y:Nat) (hx:x < 18446744073709551616) (hy:y < 18446744073709551616) (w:World) :
  Calls prog 267 #[.int .u64 x,.int .u64 y] w fun e w'=>e=.returned (.tuple #[.int .u64 ((x*y / 18446744073709551616:Nat):Int),.int .u64 ((x*y % 18446744073709551616:Nat):Int)])∧w' = w:=Any.bits_Mul64 Tryz.atV x y hx hy w
def Tryz.aiu:Go.Shelf.Ren:=⟨fun|105=>220|212=>250|99=>129|165=>251|166=>252|170=>253|169=>185|263=>266|264=>267|206=>166|240=>211|241=>268|276=>239|277=>275|n=>n,fun|9=>9|3=>3|4=>4|20=>20|0=>0|46=>276|109=>364|5=>5|72=>291|76=>366|51=>36|146=>378|53=>59|148=>380|70=>289|37=>199|75=>54|127=>327|164=>166|80=>131|n=>n,fun|n=>n⟩
theorem Tryz.atW:Go.Proofs.Lays.n105 prog Tryz.aiu:=Ly
theorem Tryz.atX:Builder.Extra prog Tryz.aiu:=Ly
open Go.RowKit Go.Lib in
theorem Tryz.strings_Repeat (s:ByteArray) (c:Nat) (w:World) (hc:c≤9223372036854775807) (hlen:s.size*c≤140737488355328) :
  Calls prog 220 #[.string s,.int .i64 c] w fun e w'=>e=.returned (.string ⟨(Lib.repeatL s.data.toList c).toArray⟩)∧Below w.heap.size w w':=Any.strings_Repeat Tryz.atW Tryz.atX s c w hc hlen
end Go.Proofs
namespace Go.Proofs
open Go.Proofs.Tryz
open Go.Shelf
def Tryz.atY:Go.Shelf.Ren:=⟨fun|196=>212|259=>240|n=>n,fun|9=>9|4=>4|3=>3|5=>5|12=>12|119=>352|0=>0|46=>276|139=>355|138=>354|53=>59|n=>n,fun|3=>5|4=>6|n=>n⟩
theorem Lyv {p:Prop} (h:p:=by constructor<;>intros<;>first|kernel_rfl|decide|(constructor<;>intros<;>first|kernel_rfl|decide|(constructor<;>intros<;>first|kernel_rfl|decide))):p:=h
theorem Tryz.aku:Go.Proofs.Lays.n196 prog Tryz.atY:=Lyv
end Go.Proofs
