import Derived.Shelf.Strings.Builder1
import Derived.Shelf.Strings.Builder2
import Derived.Shelf.Strings.OnBuilder
import Derived.Shelf.Strings.BuilderF
import Derived.Shelf.Strings.BuilderK
import Derived.Shelf.Utf8.RuneCount
import Derived.Shelf.Strings.Builder2Cap
import Derived.Shelf.Strconv.Itoa0
import Derived.Shelf.Strconv.Itoa1
import Derived.Shelf.LaysM
import Derived.Shelf.Strconv.Itoa2
import Derived.Shelf.Strconv.Itoa3
import Derived.Shelf.Strconv.Clone
import Derived.Shelf.Strconv.SyntaxError
import Derived.Shelf.LaysC
import Derived.Shelf.Strconv.ToError
import Derived.Shelf.Strconv.Lower
import Derived.Shelf.Strconv.ParseUint10
import Derived.Shelf.Strconv.ParseUint10Empty
import Derived.Shelf.Strconv.ParseUint10Any
import Derived.Shelf.Strconv.RangeError
import Derived.Shelf.Strconv.ToErrorRange
import Derived.Shelf.Strconv.ParseUintEmpty
import Derived.Shelf.Strconv.ParseUint10b64
import Derived.Shelf.Strconv.ParseUint10b32
import Derived.Shelf.Strconv.ParseUint10b16
import Derived.Shelf.Strconv.ParseUint10b8
import Derived.Shelf.Strconv.ParseUint10At
import Derived.Ground.MpProg
import Derived.Shelf.Pu.ParseUintPublic10
import Derived.Shelf.Pu.ErrVarParseUint
import Derived.Shelf.Strings.Search1
import Derived.Shelf.Strings.Search2
import Derived.Shelf.Strings.Search3
import Derived.Shelf.Strings.Count
import Derived.Shelf.Strings.Shaped
import Derived.Shelf.Strings.Prefix
import Derived.Shelf.Strings.Split
import Derived.Shelf.Strings.Fields
import Derived.Shelf.Strings.SplitShaped
import Derived.Shelf.Unicode.Latin
import Derived.Shelf.Unicode.Decode
import Derived.Shelf.Strings.RuneCount
import Derived.Shelf.Strings.Explode
import Derived.Shelf.Unicode.DecodeSlow
import Derived.Shelf.Unicode.DecodeAny
import Derived.Shelf.Unicode.Is16White
import Derived.Shelf.Unicode.IsSpaceAny
import Derived.Shelf.Unicode.Is16WhiteD
import Derived.Shelf.Strings.FieldsFuncAny
import Derived.Shelf.Unicode.Is16Any
import Derived.Shelf.Unicode.Is32Any
import Derived.Shelf.Unicode.ExclAny
import Derived.Shelf.Strings.FieldsFuncGrows
import Derived.Test.YtlfnddmncbkjaabGreatDoorProg
import Derived.Test.YtlfnddmncbkjaabGreatDoorZMB
import Derived.Lib.AppendIntMem
set_option linter.unusedVariables false
set_option linter.unusedSimpArgs false
set_option maxRecDepth 100000
set_option maxHeartbeats 4000000
namespace Go.Proofs
open YtlfnddmncbkjaabGreatDoor
open Go.Shelf
def Tryz.lays156_ren:Go.Shelf.Ren:=⟨fun|156=>97|165=>129|166=>130|169=>131|240=>156|241=>157|276=>161|277=>162|n=>n,fun|31=>24|9=>9|3=>3|4=>4|0=>0|20=>20|72=>221|76=>222|70=>219|37=>27|75=>68|127=>224|164=>253|5=>5|80=>48|n=>n,fun|n=>n⟩
theorem Tryz.lays156:Go.Proofs.Lays.n156 Tryz.prog Tryz.lays156_ren:={
  mixed:=zE
  f156:=Tryz.func97.trans (congrArg some kr)
  f165:=Tryz.func129.trans (congrArg some kr)
  f166:=Tryz.func130.trans (congrArg some kr)
  f169:=Tryz.func131.trans (congrArg some kr)
  f240:=Tryz.func156.trans (congrArg some kr)
  f241:=Tryz.func157.trans (congrArg some kr)
  f276:=Tryz.func161.trans (congrArg some kr)
  f277:=Tryz.func162.trans (congrArg some kr)
  t0:=Tryz.underlying0
  a0:=Tryz.isAgg0
  z0:=Tryz.sizeOf0
  v0:=Tryz.zeroValue0
  t3:=Tryz.underlying3
  a3:=Tryz.isAgg3
  z3:=Tryz.sizeOf3
  v3:=Tryz.zeroValue3
  t4:=Tryz.underlying4
  a4:=Tryz.isAgg4
  z4:=Tryz.sizeOf4
  v4:=Tryz.zeroValue4
  t9:=Tryz.underlying9
  a9:=Tryz.isAgg9
  z9:=Tryz.sizeOf9
  v9:=Tryz.zeroValue9
  t20:=Tryz.underlying20
  a20:=Tryz.isAgg20
  z20:=Tryz.sizeOf20
  v20:=Tryz.zeroValue20
  t31:=Tryz.underlying24
  a31:=Tryz.isAgg24
  z31:=Tryz.sizeOf24
  v31:=Tryz.zeroValue24
  t37:=Tryz.underlying27
  a37:=Tryz.isAgg27
  z37:=Tryz.sizeOf27
  v37:=Tryz.zeroValue27
  t70:=Tryz.underlying219
  a70:=Tryz.isAgg219
  z70:=Tryz.sizeOf219
  v70:=Tryz.zeroValue219
  t72:=Tryz.underlying221
  a72:=Tryz.isAgg221
  z72:=Tryz.sizeOf221
  v72:=Tryz.zeroValue221
  t75:=Tryz.underlying68
  a75:=Tryz.isAgg68
  z75:=Tryz.sizeOf68
  v75:=Tryz.zeroValue68
  t76:=Tryz.underlying222
  a76:=Tryz.isAgg222
  z76:=Tryz.sizeOf222
  v76:=Tryz.zeroValue222
  t127:=Tryz.underlying224
  a127:=Tryz.isAgg224
  z127:=Tryz.sizeOf224
  v127:=Tryz.zeroValue224
  t164:=Tryz.underlying253
  a164:=Tryz.isAgg253
  z164:=Tryz.sizeOf253
  v164:=Tryz.zeroValue253}
theorem Tryz.Builder_Extra_156:Builder.Extra Tryz.prog Tryz.lays156_ren:={
  sizeBuilder:=zE
  liesBuilder:=zE
  t5:=Tryz.underlying5
  a5:=Tryz.isAgg5
  z5:=Tryz.sizeOf5
  v5:=Tryz.zeroValue5
  infoByte:=zE
  cellsByte:=zE
  sizeByte:=zE
  neB5:=by decide}
open Go.RowKit in
theorem Tryz.strings_Join(bk o c:Nat)(xs:List ByteArray)(sep:ByteArray)(w:World)(qQ:∀(j:Nat) x,xs[j]? =some x→w.cell? ⟨bk,o+j,none⟩=some (.string x))(hbk:bk<w.heap.size)(hN:xs.length≤140737488355328)(hcap:xs.length≤c)(hlen:(Lib.join (xs.map (·.data.toList)) sep.data.toList).length≤140737488355328):
    Calls Tryz.prog 97 #[.slice (some ⟨bk,o,none⟩) xs.length c,.string sep] w fun e w'=>e=.returned (.string ⟨(Lib.join (xs.map (·.data.toList)) sep.data.toList).toArray⟩)∧Below w.heap.size w w':=Any.strings_Join Tryz.lays156 Tryz.Builder_Extra_156 bk o c xs sep w qQ hbk hN hcap hlen
def Tryz.laysM171_ren:Go.Shelf.Ren:=⟨fun|171=>19|243=>37|246=>64|283=>76|284=>77|285=>78|286=>79|129=>105|317=>104|318=>106|319=>107|320=>108|337=>132|338=>133|n=>n,fun|3=>3|9=>9|2=>2|4=>4|171=>151|0=>0|53=>66|37=>27|5=>5|173=>154|212=>194|51=>40|20=>20|213=>195|46=>72|232=>244|233=>245|n=>n,fun|17=>5|18=>7|19=>8|n=>n⟩
theorem Tryz.laysM171:Go.Proofs.LaysM.n171 Tryz.prog Tryz.laysM171_ren:={
  mixed:=zE
  f129:=Tryz.func105.trans (congrArg some kr)
  f171:=Tryz.func19.trans (congrArg some kr)
  f243:=Tryz.func37.trans (congrArg some kr)
  f246:=Tryz.func64.trans (congrArg some kr)
  f283:=Tryz.func76.trans (congrArg some kr)
  f284:=Tryz.func77.trans (congrArg some kr)
  f285:=Tryz.func78.trans (congrArg some kr)
  f286:=Tryz.func79.trans (congrArg some kr)
  f317:=Tryz.func104.trans (congrArg some kr)
  f318:=Tryz.func106.trans (congrArg some kr)
  f319:=Tryz.func107.trans (congrArg some kr)
  f320:=Tryz.func108.trans (congrArg some kr)
  f337:=Tryz.func132.trans (congrArg some kr)
  f338:=Tryz.func133.trans (congrArg some kr)
  t0:=Tryz.underlying0
  a0:=Tryz.isAgg0
  z0:=Tryz.sizeOf0
  v0:=Tryz.zeroValue0
  t2:=Tryz.underlying2
  a2:=Tryz.isAgg2
  z2:=Tryz.sizeOf2
  v2:=Tryz.zeroValue2
  t3:=Tryz.underlying3
  a3:=Tryz.isAgg3
  z3:=Tryz.sizeOf3
  v3:=Tryz.zeroValue3
  t4:=Tryz.underlying4
  a4:=Tryz.isAgg4
  z4:=Tryz.sizeOf4
  v4:=Tryz.zeroValue4
  t5:=Tryz.underlying5
  a5:=Tryz.isAgg5
  z5:=Tryz.sizeOf5
  v5:=Tryz.zeroValue5
  t9:=Tryz.underlying9
  a9:=Tryz.isAgg9
  z9:=Tryz.sizeOf9
  v9:=Tryz.zeroValue9
  t20:=Tryz.underlying20
  a20:=Tryz.isAgg20
  z20:=Tryz.sizeOf20
  v20:=Tryz.zeroValue20
  t37:=Tryz.underlying27
  a37:=Tryz.isAgg27
  z37:=Tryz.sizeOf27
  v37:=Tryz.zeroValue27
  t46:=Tryz.underlying72
  a46:=Tryz.isAgg72
  z46:=Tryz.sizeOf72
  v46:=Tryz.zeroValue72
  t51:=Tryz.underlying40
  a51:=Tryz.isAgg40
  z51:=Tryz.sizeOf40
  v51:=Tryz.zeroValue40
  t53:=Tryz.underlying66
  a53:=Tryz.isAgg66
  z53:=Tryz.sizeOf66
  v53:=Tryz.zeroValue66
  t171:=Tryz.underlying151
  a171:=Tryz.isAgg151
  z171:=Tryz.sizeOf151
  v171:=Tryz.zeroValue151
  t173:=Tryz.underlying154
  a173:=Tryz.isAgg154
  z173:=Tryz.sizeOf154
  v173:=Tryz.zeroValue154
  t212:=Tryz.underlying194
  a212:=Tryz.isAgg194
  z212:=Tryz.sizeOf194
  v212:=Tryz.zeroValue194
  t213:=Tryz.underlying195
  a213:=Tryz.isAgg195
  z213:=Tryz.sizeOf195
  t232:=Tryz.underlying244
  a232:=Tryz.isAgg244
  z232:=Tryz.sizeOf244
  v232:=Tryz.zeroValue244
  t233:=Tryz.underlying245
  a233:=Tryz.isAgg245
  z233:=Tryz.sizeOf245
  v233:=Tryz.zeroValue245
  g17:=zE
  g18:=zE
  g19:=zE
  i0:=zE
  i2:=zE
  i3:=zE
  i4:=zE
  i5:=zE
  i9:=zE
  i20:=zE
  i37:=zE
  i46:=zE
  i51:=zE
  i53:=zE
  i171:=zE
  i173:=zE
  i212:=zE
  i232:=zE
  i233:=zE
  m17:=zE
  m18:=zE
  m19:=by kernel_rfl}
open Go.RowKit Go.Sort Go.Lib in
theorem Tryz.strconv_Itoa (n : Int) (h0 : -9223372036854775808 ≤ n) (h1 : n ≤ 9223372036854775807) (w : World) (htab : Lib.TabIs Tryz.prog w "internal/strconv.uint64pow10" .u64 Lib.pow10Tab) :
    Calls Tryz.prog 19 #[.int .i64 n] w fun e w'=>e=.returned (.string ⟨(Lib.itoa n).toArray⟩)∧∃k os,w'=grow (w.drewN k) os:=Any.strconv_Itoa Tryz.laysM171 n h0 h1 w htab
def Tryz.lays171_ren:Go.Shelf.Ren:=⟨fun|171=>19|243=>37|246=>64|283=>76|284=>77|285=>78|286=>79|129=>105|317=>104|318=>106|319=>107|320=>108|337=>132|338=>133|n=>n,fun|3=>3|9=>9|2=>2|4=>4|171=>151|0=>0|53=>66|37=>27|5=>5|173=>154|212=>194|51=>40|20=>20|213=>195|46=>72|232=>244|233=>245|n=>n,fun|17=>5|18=>7|19=>8|n=>n⟩
theorem Tryz.lays171:Go.Proofs.Lays.n171 Tryz.prog Tryz.lays171_ren:={
  mixed:=zE
  f129:=Tryz.func105.trans (congrArg some kr)
  f171:=Tryz.func19.trans (congrArg some kr)
  f243:=Tryz.func37.trans (congrArg some kr)
  f246:=Tryz.func64.trans (congrArg some kr)
  f283:=Tryz.func76.trans (congrArg some kr)
  f284:=Tryz.func77.trans (congrArg some kr)
  f285:=Tryz.func78.trans (congrArg some kr)
  f286:=Tryz.func79.trans (congrArg some kr)
  f317:=Tryz.func104.trans (congrArg some kr)
  f318:=Tryz.func106.trans (congrArg some kr)
  f319:=Tryz.func107.trans (congrArg some kr)
  f320:=Tryz.func108.trans (congrArg some kr)
  f337:=Tryz.func132.trans (congrArg some kr)
  f338:=Tryz.func133.trans (congrArg some kr)
  t0:=Tryz.underlying0
  a0:=Tryz.isAgg0
  z0:=Tryz.sizeOf0
  v0:=Tryz.zeroValue0
  t2:=Tryz.underlying2
  a2:=Tryz.isAgg2
  z2:=Tryz.sizeOf2
  v2:=Tryz.zeroValue2
  t3:=Tryz.underlying3
  a3:=Tryz.isAgg3
  z3:=Tryz.sizeOf3
  v3:=Tryz.zeroValue3
  t4:=Tryz.underlying4
  a4:=Tryz.isAgg4
  z4:=Tryz.sizeOf4
  v4:=Tryz.zeroValue4
  t5:=Tryz.underlying5
  a5:=Tryz.isAgg5
  z5:=Tryz.sizeOf5
  v5:=Tryz.zeroValue5
  t9:=Tryz.underlying9
  a9:=Tryz.isAgg9
  z9:=Tryz.sizeOf9
  v9:=Tryz.zeroValue9
  t20:=Tryz.underlying20
  a20:=Tryz.isAgg20
  z20:=Tryz.sizeOf20
  v20:=Tryz.zeroValue20
  t37:=Tryz.underlying27
  a37:=Tryz.isAgg27
  z37:=Tryz.sizeOf27
  v37:=Tryz.zeroValue27
  t46:=Tryz.underlying72
  a46:=Tryz.isAgg72
  z46:=Tryz.sizeOf72
  v46:=Tryz.zeroValue72
  t51:=Tryz.underlying40
  a51:=Tryz.isAgg40
  z51:=Tryz.sizeOf40
  v51:=Tryz.zeroValue40
  t53:=Tryz.underlying66
  a53:=Tryz.isAgg66
  z53:=Tryz.sizeOf66
  v53:=Tryz.zeroValue66
  t171:=Tryz.underlying151
  a171:=Tryz.isAgg151
  z171:=Tryz.sizeOf151
  v171:=Tryz.zeroValue151
  t173:=Tryz.underlying154
  a173:=Tryz.isAgg154
  z173:=Tryz.sizeOf154
  v173:=Tryz.zeroValue154
  t212:=Tryz.underlying194
  a212:=Tryz.isAgg194
  z212:=Tryz.sizeOf194
  v212:=Tryz.zeroValue194
  t213:=Tryz.underlying195
  a213:=Tryz.isAgg195
  z213:=Tryz.sizeOf195
  t232:=Tryz.underlying244
  a232:=Tryz.isAgg244
  z232:=Tryz.sizeOf244
  v232:=Tryz.zeroValue244
  t233:=Tryz.underlying245
  a233:=Tryz.isAgg245
  z233:=Tryz.sizeOf245
  v233:=Tryz.zeroValue245
  g17:=zE
  g18:=zE
  g19:=by kernel_rfl}
open Go.RowKit Go.Sort Go.Lib in
theorem Tryz.strconv_Itoa_small(i:Nat)(hi:i<100)(w:World):
    Calls Tryz.prog 19 #[.int .i64 i] w fun e w'=>e=.returned (.string ⟨(Lib.decDigits i).toArray⟩)∧w'=w:=Any.strconv_Itoa_small Tryz.lays171 i hi w
def Tryz.laysM157_ren:Go.Shelf.Ren:=⟨fun|157=>128|229=>154|199=>155|261=>160|311=>163|312=>164|n=>n,fun|9=>9|31=>24|3=>3|5=>5|4=>4|119=>184|0=>0|40=>243|152=>248|21=>21|154=>250|51=>40|141=>252|196=>259|193=>256|198=>262|49=>260|194=>257|201=>265|226=>267|46=>72|227=>268|n=>n,fun|0=>6|6=>9|n=>n⟩
theorem Tryz.laysM157:Go.Proofs.LaysM.n157 Tryz.prog Tryz.laysM157_ren:={
  mixed:=zE
  f157:=Tryz.func128.trans (congrArg some kr)
  f199:=Tryz.func155.trans (congrArg some kr)
  f229:=Tryz.func154.trans (congrArg some kr)
  f261:=Tryz.func160.trans (congrArg some kr)
  f311:=Tryz.func163.trans (congrArg some kr)
  f312:=Tryz.func164.trans (congrArg some kr)
  t0:=Tryz.underlying0
  a0:=Tryz.isAgg0
  z0:=Tryz.sizeOf0
  v0:=Tryz.zeroValue0
  t3:=Tryz.underlying3
  a3:=Tryz.isAgg3
  z3:=Tryz.sizeOf3
  v3:=Tryz.zeroValue3
  t4:=Tryz.underlying4
  a4:=Tryz.isAgg4
  z4:=Tryz.sizeOf4
  v4:=Tryz.zeroValue4
  t5:=Tryz.underlying5
  a5:=Tryz.isAgg5
  z5:=Tryz.sizeOf5
  v5:=Tryz.zeroValue5
  t9:=Tryz.underlying9
  a9:=Tryz.isAgg9
  z9:=Tryz.sizeOf9
  v9:=Tryz.zeroValue9
  t21:=Tryz.underlying21
  a21:=Tryz.isAgg21
  z21:=Tryz.sizeOf21
  v21:=Tryz.zeroValue21
  t31:=Tryz.underlying24
  a31:=Tryz.isAgg24
  z31:=Tryz.sizeOf24
  v31:=Tryz.zeroValue24
  t40:=Tryz.underlying243
  a40:=Tryz.isAgg243
  z40:=Tryz.sizeOf243
  v40:=Tryz.zeroValue243
  t46:=Tryz.underlying72
  a46:=Tryz.isAgg72
  z46:=Tryz.sizeOf72
  v46:=Tryz.zeroValue72
  t49:=Tryz.underlying260
  a49:=Tryz.isAgg260
  z49:=Tryz.sizeOf260
  v49:=Tryz.zeroValue260
  t51:=Tryz.underlying40
  a51:=Tryz.isAgg40
  z51:=Tryz.sizeOf40
  v51:=Tryz.zeroValue40
  t119:=Tryz.underlying184
  a119:=Tryz.isAgg184
  z119:=Tryz.sizeOf184
  t141:=Tryz.underlying252
  a141:=Tryz.isAgg252
  z141:=Tryz.sizeOf252
  v141:=Tryz.zeroValue252
  t152:=Tryz.underlying248
  a152:=Tryz.isAgg248
  z152:=Tryz.sizeOf248
  v152:=Tryz.zeroValue248
  t154:=Tryz.underlying250
  a154:=Tryz.isAgg250
  z154:=Tryz.sizeOf250
  v154:=Tryz.zeroValue250
  t193:=Tryz.underlying256
  a193:=Tryz.isAgg256
  z193:=Tryz.sizeOf256
  v193:=Tryz.zeroValue256
  t194:=Tryz.underlying257
  a194:=Tryz.isAgg257
  z194:=Tryz.sizeOf257
  v194:=Tryz.zeroValue257
  t196:=Tryz.underlying259
  a196:=Tryz.isAgg259
  z196:=Tryz.sizeOf259
  v196:=Tryz.zeroValue259
  t198:=Tryz.underlying262
  a198:=Tryz.isAgg262
  z198:=Tryz.sizeOf262
  v198:=Tryz.zeroValue262
  t201:=Tryz.underlying265
  a201:=Tryz.isAgg265
  z201:=Tryz.sizeOf265
  v201:=Tryz.zeroValue265
  t226:=Tryz.underlying267
  a226:=Tryz.isAgg267
  z226:=Tryz.sizeOf267
  v226:=Tryz.zeroValue267
  t227:=Tryz.underlying268
  a227:=Tryz.isAgg268
  z227:=Tryz.sizeOf268
  v227:=Tryz.zeroValue268
  g0:=zE
  g6:=zE
  i0:=zE
  i3:=zE
  i4:=zE
  i5:=zE
  i9:=zE
  i21:=zE
  i31:=zE
  i40:=zE
  i46:=zE
  i49:=zE
  i51:=zE
  i141:=zE
  i152:=zE
  i154:=zE
  i193:=zE
  i194:=zE
  i196:=zE
  i198:=zE
  i201:=zE
  i226:=zE
  i227:=zE
  m0:=zE
  m6:=by kernel_rfl}
open Go.RowKit Go.Lib in
theorem Tryz.strings_Fields_laid (s : ByteArray) (w : World) (hs : s.size < 4294967281) (hascii : ∀ (j : Nat) b, s.data.toList[j]? = some b → b.toNat < 128) (htab : Lib.TabIs Tryz.prog w "strings.asciiSpace" .u8 Lib.asciiSpaceTab) :
    Calls Tryz.prog 128 #[.string s] w fun e w'=>
      e=.returned (.slice (some ⟨w.heap.size,0,none⟩) (Lib.fields s.data.toList).length (Lib.fields s.data.toList).length)∧w'=w.alloc (.cells ((Lib.fields s.data.toList).map fun l=>Value.string ⟨l.toArray⟩).toArray 9):=Any.strings_Fields_laid Tryz.laysM157 s w hs hascii htab
end Go.Proofs
namespace Go.Proofs
open YtlfnddmncbkjaabGreatDoor
open Go.Shelf
def Tryz.lays283_ren:Go.Shelf.Ren:=⟨fun|283=>76|n=>n,fun|3=>3|9=>9|4=>4|n=>n,fun|n=>n⟩
theorem Tryz.lays283:Go.Proofs.Lays.n283 Tryz.prog Tryz.lays283_ren:={
  mixed:=zE
  f283:=Tryz.func76.trans (congrArg some kr)
  t3:=Tryz.underlying3
  a3:=Tryz.isAgg3
  z3:=Tryz.sizeOf3
  v3:=Tryz.zeroValue3
  t4:=Tryz.underlying4
  a4:=Tryz.isAgg4
  z4:=Tryz.sizeOf4
  v4:=Tryz.zeroValue4
  t9:=Tryz.underlying9
  a9:=Tryz.isAgg9
  z9:=Tryz.sizeOf9
  v9:=Tryz.zeroValue9}
open Go.Lib in
theorem Tryz.internal_strconv_small(i:Nat)(h:i<100)(w:World):
    Calls Tryz.prog 76 #[.int .i64 i] w fun e w'=>e=.returned (.string ⟨(Lib.decDigits i).toArray⟩)∧w'=w:=Any.internal_strconv_small Tryz.lays283 i h w
def Tryz.laysM284_ren:Go.Shelf.Ren:=⟨fun|284=>77|129=>105|317=>104|318=>106|n=>n,fun|53=>66|3=>3|212=>194|0=>0|4=>4|46=>72|5=>5|9=>9|n=>n,fun|17=>5|n=>n⟩
theorem Tryz.laysM284:Go.Proofs.LaysM.n284 Tryz.prog Tryz.laysM284_ren:={
  mixed:=zE
  f129:=Tryz.func105.trans (congrArg some kr)
  f284:=Tryz.func77.trans (congrArg some kr)
  f317:=Tryz.func104.trans (congrArg some kr)
  f318:=Tryz.func106.trans (congrArg some kr)
  t0:=Tryz.underlying0
  a0:=Tryz.isAgg0
  z0:=Tryz.sizeOf0
  v0:=Tryz.zeroValue0
  t3:=Tryz.underlying3
  a3:=Tryz.isAgg3
  z3:=Tryz.sizeOf3
  v3:=Tryz.zeroValue3
  t4:=Tryz.underlying4
  a4:=Tryz.isAgg4
  z4:=Tryz.sizeOf4
  v4:=Tryz.zeroValue4
  t5:=Tryz.underlying5
  a5:=Tryz.isAgg5
  z5:=Tryz.sizeOf5
  v5:=Tryz.zeroValue5
  t9:=Tryz.underlying9
  a9:=Tryz.isAgg9
  z9:=Tryz.sizeOf9
  v9:=Tryz.zeroValue9
  t46:=Tryz.underlying72
  a46:=Tryz.isAgg72
  z46:=Tryz.sizeOf72
  v46:=Tryz.zeroValue72
  t53:=Tryz.underlying66
  a53:=Tryz.isAgg66
  z53:=Tryz.sizeOf66
  v53:=Tryz.zeroValue66
  t212:=Tryz.underlying194
  a212:=Tryz.isAgg194
  z212:=Tryz.sizeOf194
  v212:=Tryz.zeroValue194
  g17:=zE
  i0:=zE
  i3:=zE
  i4:=zE
  i5:=zE
  i9:=zE
  i46:=zE
  i53:=zE
  i212:=zE
  m17:=by kernel_rfl}
open Go.Lib in
theorem Tryz.internal_strconv_numDigits (u : Nat) (h1 : 1 ≤ u) (h2 : u < 18446744073709551616) (w : World) (htab : Lib.TabIs Tryz.prog w "internal/strconv.uint64pow10" .u64 Lib.pow10Tab) :
    Calls Tryz.prog 77 #[.int .u64 u] w fun e w'=>e=.returned (.int .i64 (Lib.nDigits u))∧w'=w:=Any.internal_strconv_numDigits Tryz.laysM284 u h1 h2 w htab
def Tryz.lays285_ren:Go.Shelf.Ren:=⟨fun|285=>78|n=>n,fun|37=>27|53=>66|3=>3|4=>4|51=>40|9=>9|5=>5|0=>0|n=>n,fun|n=>n⟩
theorem Tryz.lays285:Go.Proofs.Lays.n285 Tryz.prog Tryz.lays285_ren:={
  mixed:=zE
  f285:=Tryz.func78.trans (congrArg some kr)
  t0:=Tryz.underlying0
  a0:=Tryz.isAgg0
  z0:=Tryz.sizeOf0
  v0:=Tryz.zeroValue0
  t3:=Tryz.underlying3
  a3:=Tryz.isAgg3
  z3:=Tryz.sizeOf3
  v3:=Tryz.zeroValue3
  t4:=Tryz.underlying4
  a4:=Tryz.isAgg4
  z4:=Tryz.sizeOf4
  v4:=Tryz.zeroValue4
  t5:=Tryz.underlying5
  a5:=Tryz.isAgg5
  z5:=Tryz.sizeOf5
  v5:=Tryz.zeroValue5
  t9:=Tryz.underlying9
  a9:=Tryz.isAgg9
  z9:=Tryz.sizeOf9
  v9:=Tryz.zeroValue9
  t37:=Tryz.underlying27
  a37:=Tryz.isAgg27
  z37:=Tryz.sizeOf27
  v37:=Tryz.zeroValue27
  t51:=Tryz.underlying40
  a51:=Tryz.isAgg40
  z51:=Tryz.sizeOf40
  v51:=Tryz.zeroValue40
  t53:=Tryz.underlying66
  a53:=Tryz.isAgg66
  z53:=Tryz.sizeOf66
  v53:=Tryz.zeroValue66}
open Go.RowKit Go.Sort Go.Lib in
theorem Tryz.internal_strconv_formatBase10(blk off cap:Nat)(u:Nat)(d:Array UInt8)(w:World)(hH:Holds (fun(b:UInt8)=>Value.int .u8 (b.toNat:Int)) w blk off d)(hu:u<10 ^ d.size)(hu64:u<18446744073709551616)(hsz:d.size<4611686018427387904):
    Calls Tryz.prog 78 #[.slice (some ⟨blk,off,none⟩) d.size cap,.int .u64 u] w fun e w'=>
      e=.returned (.tuple #[])∧∃(n v':Nat) (dk:Array UInt8),w'=(putRow (fun(b:UInt8)=>Value.int .u8 (b.toNat:Int)) w blk off dk).drewN n∧FmtInv d.size u 0 v' dk:=Any.internal_strconv_formatBase10 Tryz.lays285 blk off cap u d w hH hu hu64 hsz
def Tryz.laysPu14_ren:Go.Shelf.Ren:=⟨fun|14=>24|16=>43|17=>44|19=>70|20=>71|21=>72|22=>73|23=>74|24=>75|25=>102|27=>19|26=>103|28=>37|29=>64|30=>76|31=>77|32=>78|33=>79|35=>105|34=>104|36=>106|37=>107|38=>108|39=>132|40=>133|n=>n,fun|9=>9|3=>3|22=>66|24=>68|25=>69|4=>4|34=>145|5=>5|36=>72|37=>27|0=>0|39=>148|21=>21|44=>191|47=>224|50=>227|48=>225|2=>2|52=>151|55=>154|59=>194|60=>40|20=>20|61=>195|65=>244|66=>245|67=>48|n=>n,fun|0=>3|1=>4|2=>5|3=>7|4=>8|n=>n⟩
theorem Tryz.laysPu14:Go.Proofs.LaysPu.n14 Tryz.prog Tryz.laysPu14_ren:={
  mixed:=zE
  f14:=Tryz.func24.trans (congrArg some kr)
  f16:=Tryz.func43.trans (congrArg some kr)
  f17:=Tryz.func44.trans (congrArg some kr)
  f19:=Tryz.func70.trans (congrArg some kr)
  f20:=Tryz.func71.trans (congrArg some kr)
  f21:=Tryz.func72.trans (congrArg some kr)
  f22:=Tryz.func73.trans (congrArg some kr)
  f23:=Tryz.func74.trans (congrArg some kr)
  f24:=Tryz.func75.trans (congrArg some kr)
  f25:=Tryz.func102.trans (congrArg some kr)
  f26:=Tryz.func103.trans (congrArg some kr)
  f27:=Tryz.func19.trans (congrArg some kr)
  f28:=Tryz.func37.trans (congrArg some kr)
  f29:=Tryz.func64.trans (congrArg some kr)
  f30:=Tryz.func76.trans (congrArg some kr)
  f31:=Tryz.func77.trans (congrArg some kr)
  f32:=Tryz.func78.trans (congrArg some kr)
  f33:=Tryz.func79.trans (congrArg some kr)
  f34:=Tryz.func104.trans (congrArg some kr)
  f35:=Tryz.func105.trans (congrArg some kr)
  f36:=Tryz.func106.trans (congrArg some kr)
  f37:=Tryz.func107.trans (congrArg some kr)
  f38:=Tryz.func108.trans (congrArg some kr)
  f39:=Tryz.func132.trans (congrArg some kr)
  f40:=Tryz.func133.trans (congrArg some kr)
  t0:=Tryz.underlying0
  a0:=Tryz.isAgg0
  z0:=Tryz.sizeOf0
  v0:=Tryz.zeroValue0
  i0:=zE
  t2:=Tryz.underlying2
  a2:=Tryz.isAgg2
  z2:=Tryz.sizeOf2
  v2:=Tryz.zeroValue2
  i2:=zE
  t3:=Tryz.underlying3
  a3:=Tryz.isAgg3
  z3:=Tryz.sizeOf3
  v3:=Tryz.zeroValue3
  i3:=zE
  t4:=Tryz.underlying4
  a4:=Tryz.isAgg4
  z4:=Tryz.sizeOf4
  v4:=Tryz.zeroValue4
  i4:=zE
  t5:=Tryz.underlying5
  a5:=Tryz.isAgg5
  z5:=Tryz.sizeOf5
  v5:=Tryz.zeroValue5
  i5:=zE
  t9:=Tryz.underlying9
  a9:=Tryz.isAgg9
  z9:=Tryz.sizeOf9
  v9:=Tryz.zeroValue9
  i9:=zE
  t20:=Tryz.underlying20
  a20:=Tryz.isAgg20
  z20:=Tryz.sizeOf20
  v20:=Tryz.zeroValue20
  i20:=zE
  t21:=Tryz.underlying21
  a21:=Tryz.isAgg21
  z21:=Tryz.sizeOf21
  v21:=Tryz.zeroValue21
  i21:=zE
  t22:=Tryz.underlying66
  a22:=Tryz.isAgg66
  z22:=Tryz.sizeOf66
  v22:=Tryz.zeroValue66
  i22:=zE
  t24:=Tryz.underlying68
  a24:=Tryz.isAgg68
  z24:=Tryz.sizeOf68
  v24:=Tryz.zeroValue68
  i24:=zE
  t25:=Tryz.underlying69
  a25:=Tryz.isAgg69
  z25:=Tryz.sizeOf69
  v25:=Tryz.zeroValue69
  i25:=zE
  t34:=Tryz.underlying145
  a34:=Tryz.isAgg145
  z34:=Tryz.sizeOf145
  v34:=Tryz.zeroValue145
  i34:=zE
  c34:=zE
  t36:=Tryz.underlying72
  a36:=Tryz.isAgg72
  z36:=Tryz.sizeOf72
  v36:=Tryz.zeroValue72
  i36:=zE
  t37:=Tryz.underlying27
  a37:=Tryz.isAgg27
  z37:=Tryz.sizeOf27
  v37:=Tryz.zeroValue27
  i37:=zE
  t39:=Tryz.underlying148
  a39:=Tryz.isAgg148
  z39:=Tryz.sizeOf148
  v39:=Tryz.zeroValue148
  i39:=zE
  t44:=Tryz.underlying191
  a44:=Tryz.isAgg191
  z44:=Tryz.sizeOf191
  v44:=Tryz.zeroValue191
  i44:=zE
  t47:=Tryz.underlying224
  a47:=Tryz.isAgg224
  z47:=Tryz.sizeOf224
  v47:=Tryz.zeroValue224
  i47:=zE
  t48:=Tryz.underlying225
  a48:=Tryz.isAgg225
  z48:=Tryz.sizeOf225
  v48:=Tryz.zeroValue225
  i48:=zE
  t50:=Tryz.underlying227
  a50:=Tryz.isAgg227
  z50:=Tryz.sizeOf227
  v50:=Tryz.zeroValue227
  i50:=zE
  t52:=Tryz.underlying151
  a52:=Tryz.isAgg151
  z52:=Tryz.sizeOf151
  v52:=Tryz.zeroValue151
  i52:=zE
  t55:=Tryz.underlying154
  a55:=Tryz.isAgg154
  z55:=Tryz.sizeOf154
  v55:=Tryz.zeroValue154
  i55:=zE
  t59:=Tryz.underlying194
  a59:=Tryz.isAgg194
  z59:=Tryz.sizeOf194
  v59:=Tryz.zeroValue194
  i59:=zE
  t60:=Tryz.underlying40
  a60:=Tryz.isAgg40
  z60:=Tryz.sizeOf40
  v60:=Tryz.zeroValue40
  i60:=zE
  t61:=Tryz.underlying195
  a61:=Tryz.isAgg195
  z61:=Tryz.sizeOf195
  t65:=Tryz.underlying244
  a65:=Tryz.isAgg244
  z65:=Tryz.sizeOf244
  v65:=Tryz.zeroValue244
  i65:=zE
  t66:=Tryz.underlying245
  a66:=Tryz.isAgg245
  z66:=Tryz.sizeOf245
  v66:=Tryz.zeroValue245
  i66:=zE
  t67:=Tryz.underlying48
  a67:=Tryz.isAgg48
  z67:=Tryz.sizeOf48
  v67:=Tryz.zeroValue48
  i67:=zE
  g0:=zE
  m0:=zE
  g1:=zE
  m1:=zE
  g2:=zE
  m2:=zE
  g3:=zE
  m3:=zE
  g4:=zE
  m4:=by kernel_rfl}
open Go.RowKit in
theorem Tryz.strconv_ParseUint_10_at32_ok(s:ByteArray)(hmax:s.size≤9223372036854775806)(u:Nat)(h:Lib.parseUintB 32 s.data.toList=.ok u)(w:World):
    Calls Tryz.prog 24 #[.string s,.int .i64 10,.int .i64 32] w fun e w'=>e=.returned (.tuple #[.int .u64 u,.nilIface])∧(w'=w∨w'=Lib.bytesWorld w 5 s):=Any.strconv_ParseUint_10_at32_ok Tryz.laysPu14 s hmax u h w
open Go.RowKit in
theorem Tryz.strconv_ParseUint_10_at32_syntax_var (s : ByteArray) (hlim : s.size ≤ 281474976710656) (h : Lib.parseUintB 32 s.data.toList = .«syntax») (tp : TypeId) (p : Value) (w : World) (hvar : w.var? Tryz.prog "strconv.ErrSyntax" = some #[.iface tp p]) :
    Calls Tryz.prog 24 #[.string s,.int .i64 10,.int .i64 32] w fun e w'=>∃N,e=.returned (.tuple #[.int .u64 0,.iface 148 (.pointer (some ⟨N,0,none⟩))])∧w.heap.size≤N∧w'.heap[N]? =some (.cells #[.string ⟨#[80,97,114,115,101,85,105,110,116]⟩,.string s,.iface tp p] 191 (0,0))∧Below w.heap.size w w':=Any.strconv_ParseUint_10_at32_syntax_var Tryz.laysPu14 s hlim h tp p w hvar
open Go.RowKit in
theorem Tryz.strconv_ParseUint_10_at32_range_var (s : ByteArray) (hlim : s.size ≤ 281474976710656) (h : Lib.parseUintB 32 s.data.toList = .range) (tp : TypeId) (p : Value) (w : World) (hvar : w.var? Tryz.prog "strconv.ErrRange" = some #[.iface tp p]) :
    Calls Tryz.prog 24 #[.string s,.int .i64 10,.int .i64 32] w fun e w'=>∃N,e=.returned (.tuple #[.int .u64 4294967295,.iface 148 (.pointer (some ⟨N,0,none⟩))])∧w.heap.size≤N∧w'.heap[N]? =some (.cells #[.string ⟨#[80,97,114,115,101,85,105,110,116]⟩,.string s,.iface tp p] 191 (0,0))∧Below w.heap.size w w':=Any.strconv_ParseUint_10_at32_range_var Tryz.laysPu14 s hlim h tp p w hvar
def Tryz.lays143_ren:Go.Shelf.Ren:=⟨fun|143=>23|219=>42|217=>66|225=>67|224=>68|267=>69|266=>100|314=>101|n=>n,fun|9=>9|3=>3|4=>4|5=>5|46=>72|146=>188|51=>40|n=>n,fun|1=>0|n=>n⟩
theorem Tryz.lays143:Go.Proofs.Lays.n143 Tryz.prog Tryz.lays143_ren:={
  mixed:=zE
  f143:=Tryz.func23.trans (congrArg some kr)
  f217:=Tryz.func66.trans (congrArg some kr)
  f219:=Tryz.func42.trans (congrArg some kr)
  f224:=Tryz.func68.trans (congrArg some kr)
  f225:=Tryz.func67.trans (congrArg some kr)
  f266:=Tryz.func100.trans (congrArg some kr)
  f267:=Tryz.func69.trans (congrArg some kr)
  f314:=Tryz.func101.trans (congrArg some kr)
  t3:=Tryz.underlying3
  a3:=Tryz.isAgg3
  z3:=Tryz.sizeOf3
  v3:=Tryz.zeroValue3
  t4:=Tryz.underlying4
  a4:=Tryz.isAgg4
  z4:=Tryz.sizeOf4
  v4:=Tryz.zeroValue4
  t5:=Tryz.underlying5
  a5:=Tryz.isAgg5
  z5:=Tryz.sizeOf5
  v5:=Tryz.zeroValue5
  t9:=Tryz.underlying9
  a9:=Tryz.isAgg9
  z9:=Tryz.sizeOf9
  v9:=Tryz.zeroValue9
  t46:=Tryz.underlying72
  a46:=Tryz.isAgg72
  z46:=Tryz.sizeOf72
  v46:=Tryz.zeroValue72
  t51:=Tryz.underlying40
  a51:=Tryz.isAgg40
  z51:=Tryz.sizeOf40
  v51:=Tryz.zeroValue40
  t146:=Tryz.underlying188
  a146:=Tryz.isAgg188
  z146:=Tryz.sizeOf188
  v146:=Tryz.zeroValue188
  g1:=by kernel_rfl}
def Tryz.lays138_ren:Go.Shelf.Ren:=⟨fun|138=>22|195=>39|218=>41|143=>23|219=>42|217=>66|225=>67|224=>68|267=>69|266=>100|314=>101|n=>n,fun|9=>9|3=>3|4=>4|5=>5|0=>0|46=>72|146=>188|51=>40|n=>n,fun|1=>0|n=>n⟩
theorem Tryz.lays138:Go.Proofs.Lays.n138 Tryz.prog Tryz.lays138_ren:={
  mixed:=zE
  f138:=Tryz.func22.trans (congrArg some kr)
  f143:=Tryz.func23.trans (congrArg some kr)
  f195:=Tryz.func39.trans (congrArg some kr)
  f217:=Tryz.func66.trans (congrArg some kr)
  f218:=Tryz.func41.trans (congrArg some kr)
  f219:=Tryz.func42.trans (congrArg some kr)
  f224:=Tryz.func68.trans (congrArg some kr)
  f225:=Tryz.func67.trans (congrArg some kr)
  f266:=Tryz.func100.trans (congrArg some kr)
  f267:=Tryz.func69.trans (congrArg some kr)
  f314:=Tryz.func101.trans (congrArg some kr)
  t0:=Tryz.underlying0
  a0:=Tryz.isAgg0
  z0:=Tryz.sizeOf0
  v0:=Tryz.zeroValue0
  t3:=Tryz.underlying3
  a3:=Tryz.isAgg3
  z3:=Tryz.sizeOf3
  v3:=Tryz.zeroValue3
  t4:=Tryz.underlying4
  a4:=Tryz.isAgg4
  z4:=Tryz.sizeOf4
  v4:=Tryz.zeroValue4
  t5:=Tryz.underlying5
  a5:=Tryz.isAgg5
  z5:=Tryz.sizeOf5
  v5:=Tryz.zeroValue5
  t9:=Tryz.underlying9
  a9:=Tryz.isAgg9
  z9:=Tryz.sizeOf9
  v9:=Tryz.zeroValue9
  t46:=Tryz.underlying72
  a46:=Tryz.isAgg72
  z46:=Tryz.sizeOf72
  v46:=Tryz.zeroValue72
  t51:=Tryz.underlying40
  a51:=Tryz.isAgg40
  z51:=Tryz.sizeOf40
  v51:=Tryz.zeroValue40
  t146:=Tryz.underlying188
  a146:=Tryz.isAgg188
  z146:=Tryz.sizeOf188
  v146:=Tryz.zeroValue188
  g1:=by kernel_rfl}
open Go.RowKit Go.Lib in
theorem Tryz.strings_Count_one(s:ByteArray)(c:UInt8)(w:World):
    Calls Tryz.prog 22 #[.string s,.string ⟨#[c]⟩] w fun e w'=>e=.returned (.int .i64 (Lib.countByte s.data.toList c))∧w'=w:=Any.strings_Count_one Tryz.lays138 s c w
def Tryz.lays101_ren:Go.Shelf.Ren:=⟨fun|101=>32|208=>54|206=>90|n=>n,fun|9=>9|4=>4|3=>3|n=>n,fun|n=>n⟩
theorem Tryz.lays101:Go.Proofs.Lays.n101 Tryz.prog Tryz.lays101_ren:={
  mixed:=zE
  f101:=Tryz.func32.trans (congrArg some kr)
  f206:=Tryz.func90.trans (congrArg some kr)
  f208:=Tryz.func54.trans (congrArg some kr)
  t3:=Tryz.underlying3
  a3:=Tryz.isAgg3
  z3:=Tryz.sizeOf3
  v3:=Tryz.zeroValue3
  t4:=Tryz.underlying4
  a4:=Tryz.isAgg4
  z4:=Tryz.sizeOf4
  v4:=Tryz.zeroValue4
  t9:=Tryz.underlying9
  a9:=Tryz.isAgg9
  z9:=Tryz.sizeOf9
  v9:=Tryz.zeroValue9}
open Go.RowKit Go.Lib in
theorem Tryz.strings_TrimPrefix(s p:ByteArray)(w:World):
    Calls Tryz.prog 32 #[.string s,.string p] w fun e w'=>e=.returned (.string ⟨(Lib.trimPrefix s.data.toList p.data.toList).toArray⟩)∧w'=w:=Any.strings_TrimPrefix Tryz.lays101 s p w
def Tryz.lays221_ren:Go.Shelf.Ren:=⟨fun|221=>7|268=>21|138=>22|143=>23|195=>39|197=>40|218=>41|219=>42|260=>65|217=>66|225=>67|224=>68|267=>69|266=>100|314=>101|n=>n,fun|9=>9|3=>3|31=>24|4=>4|0=>0|105=>102|21=>21|5=>5|46=>72|119=>184|139=>187|138=>186|146=>188|51=>40|n=>n,fun|1=>0|3=>1|4=>2|n=>n⟩
theorem Tryz.lays221:Go.Proofs.Lays.n221 Tryz.prog Tryz.lays221_ren:={
  mixed:=zE
  f138:=Tryz.func22.trans (congrArg some kr)
  f143:=Tryz.func23.trans (congrArg some kr)
  f195:=Tryz.func39.trans (congrArg some kr)
  f197:=Tryz.func40.trans (congrArg some kr)
  f217:=Tryz.func66.trans (congrArg some kr)
  f218:=Tryz.func41.trans (congrArg some kr)
  f219:=Tryz.func42.trans (congrArg some kr)
  f221:=Tryz.func7.trans (congrArg some kr)
  f224:=Tryz.func68.trans (congrArg some kr)
  f225:=Tryz.func67.trans (congrArg some kr)
  f260:=Tryz.func65.trans (congrArg some kr)
  f266:=Tryz.func100.trans (congrArg some kr)
  f267:=Tryz.func69.trans (congrArg some kr)
  f268:=Tryz.func21.trans (congrArg some kr)
  f314:=Tryz.func101.trans (congrArg some kr)
  t0:=Tryz.underlying0
  a0:=Tryz.isAgg0
  z0:=Tryz.sizeOf0
  v0:=Tryz.zeroValue0
  t3:=Tryz.underlying3
  a3:=Tryz.isAgg3
  z3:=Tryz.sizeOf3
  v3:=Tryz.zeroValue3
  t4:=Tryz.underlying4
  a4:=Tryz.isAgg4
  z4:=Tryz.sizeOf4
  v4:=Tryz.zeroValue4
  t5:=Tryz.underlying5
  a5:=Tryz.isAgg5
  z5:=Tryz.sizeOf5
  v5:=Tryz.zeroValue5
  t9:=Tryz.underlying9
  a9:=Tryz.isAgg9
  z9:=Tryz.sizeOf9
  v9:=Tryz.zeroValue9
  t21:=Tryz.underlying21
  a21:=Tryz.isAgg21
  z21:=Tryz.sizeOf21
  v21:=Tryz.zeroValue21
  t31:=Tryz.underlying24
  a31:=Tryz.isAgg24
  z31:=Tryz.sizeOf24
  v31:=Tryz.zeroValue24
  t46:=Tryz.underlying72
  a46:=Tryz.isAgg72
  z46:=Tryz.sizeOf72
  v46:=Tryz.zeroValue72
  t51:=Tryz.underlying40
  a51:=Tryz.isAgg40
  z51:=Tryz.sizeOf40
  v51:=Tryz.zeroValue40
  t105:=Tryz.underlying102
  a105:=Tryz.isAgg102
  z105:=Tryz.sizeOf102
  v105:=Tryz.zeroValue102
  t119:=Tryz.underlying184
  a119:=Tryz.isAgg184
  z119:=Tryz.sizeOf184
  t138:=Tryz.underlying186
  a138:=Tryz.isAgg186
  z138:=Tryz.sizeOf186
  v138:=Tryz.zeroValue186
  t139:=Tryz.underlying187
  a139:=Tryz.isAgg187
  z139:=Tryz.sizeOf187
  v139:=Tryz.zeroValue187
  t146:=Tryz.underlying188
  a146:=Tryz.isAgg188
  z146:=Tryz.sizeOf188
  v146:=Tryz.zeroValue188
  g1:=zE
  g3:=zE
  g4:=by kernel_rfl}
end Go.Proofs
namespace Go.Proofs.YtlfnddmncbkjaabGreatDoor.W
open Go.RowKit Fb
theorem reg_any(n:Int)(hn:0≤n∧n≤31)(w:World):
    Calls Tryz.prog 126 #[.int .i64 n] w fun e w'=>e=.returned (.string (bs (regS n)))∧w=w':=by
  obtain⟨k,rfl⟩:=sQ hn.1
  have HD:=lI (fun W=>Tryz.strconv_Itoa_small k om W)
  have HS:Hid ((⟨#[120]⟩:ByteArray)++⟨(Lib.decDigits k).toArray⟩=bs (regS (k:Int))):=lI (by
    unfold regS
    rw[Lib.itoa_nonneg]
    exact jk [120] (Lib.decDigits k))
  have hsz:(⟨#[120]⟩:ByteArray).size+(⟨(Lib.decDigits k).toArray⟩:ByteArray).size≤100:=by
    have h1:=QU (Lib.decDigits k)
    have:=JJ k om
    show 1+(bs (Lib.decDigits k)).size≤100
    omega
  obtain⟨b,hb⟩:∃b:ByteArray,b=⟨(Lib.decDigits k).toArray⟩:=⟨_,rfl⟩
  obtain⟨b2,hb2⟩:∃b,b=bs (regS (k:Int)):=⟨_,rfl⟩
  rw[←hb]at hsz HS HD
  rw[←hb2]at HS ⊢
  clear hb hb2 hn
  go_enter Tryz.func126,Tryz.ntmps126
  go_wp2_with fail
  refine(HD.out _).mono ?_
  rintro e w2 ⟨rfl,rfl⟩
  go_wp2_with fail
  go_ret
  exact⟨by rw[HS.out];rfl,rfl⟩
theorem at_any(i:InsD)(num:List UInt8)(hl:num.length≤30)(hr:0≤i.rs1∧i.rs1≤31)(w:World):
    Calls Tryz.prog 127 #[.agg (qr i),.string (bs num)] w fun e w'=>e=.returned (.string (bs (atS i.rs1 num)))∧Below w.heap.size w w':=by
  obtain⟨op,rd,rs1,rs2,imm⟩:=i
  simp only[qr]at hr ⊢
  have HD:=lI (fun W=>reg_any rs1 hr W)
  have HS:Hid (bs num++(⟨#[40]⟩:ByteArray)++bs (regS rs1)++⟨#[41]⟩=bs (atS rs1 num)):=lI (by
    rw[show(⟨#[40]⟩:ByteArray)=bs [40]from rfl,show(⟨#[41]⟩:ByteArray)=bs [41]from rfl,jk,jk,jk]
    unfold atS
    simp)
  have hz1:(bs num).size≤30:=by rw[QU];exact hl
  have hz2:(bs (regS rs1)).size≤30:=by
    rw[QU]
    have:=jv rs1 om
    unfold regS
    simp only[List.length_cons]
    omega
  obtain⟨b,hb⟩:∃b,b=bs num:=⟨_,rfl⟩
  obtain⟨b2,hb2⟩:∃b,b=bs (regS rs1):=⟨_,rfl⟩
  obtain⟨b3,hb3⟩:∃b,b=bs (atS rs1 num):=⟨_,rfl⟩
  rw[←hb]at hz1 HS ⊢
  rw[←hb2]at hz2 HS HD
  rw[←hb3]at HS ⊢
  have hs1:b.size+(⟨#[40]⟩:ByteArray).size≤100:=by show _+1≤100;omega
  have hs2:(b++(⟨#[40]⟩:ByteArray)).size+b2.size≤100:=by rw[ByteArray.size_append];show _+1+_≤100;omega
  have hs3:(b++(⟨#[40]⟩:ByteArray)++b2).size+(⟨#[41]⟩:ByteArray).size≤100:=by rw[ByteArray.size_append,ByteArray.size_append];show _+1+_+1≤100;omega
  clear hb hb2 hb3 hr hz1 hz2 hl
  go_enter Tryz.func127,Tryz.ntmps127
  go_wp2_with fail
  refine(HD.out _).mono ?_
  rintro e w2 ⟨rfl,rfl⟩
  go_wp2_with fail
  go_ret
  exact⟨by rw[HS.out];rfl,Fb.blw⟩
end Go.Proofs.YtlfnddmncbkjaabGreatDoor.W
namespace Go.Proofs.YtlfnddmncbkjaabGreatDoor.Fb
open Go.RowKit
end Go.Proofs.YtlfnddmncbkjaabGreatDoor.Fb
namespace Go.Proofs.YtlfnddmncbkjaabGreatDoor.W
open Go.RowKit Fb
theorem names_fields:Lib.fields namesL=fullL:=by kernel_rfl
theorem names_ascii:∀(j:Nat) b,(bs namesL).data.toList[j]? =some b→b.toNat<128:=by
  have h:∀b∈namesL,b.toNat<128:=zF
  intro j b hb
  exact h b (List.mem_of_getElem? (by simpa[bs]using hb))
theorem fields_names (W : World) (htab : Lib.TabIs Tryz.prog W "strings.asciiSpace" .u8 Lib.asciiSpaceTab) :
    Calls Tryz.prog 128 #[.string (bs namesL)] W fun e w'=>e=.returned (.slice (some ⟨W.heap.size,0,none⟩) 59 59)∧∃cs:Array Value,w'=W.alloc (.cells cs 9)∧∀k,k<59→cs[k]? =some (.string (bs (fullL.getD k []))):=by
  have h:=Tryz.strings_Fields_laid (bs namesL) W (by rw[QU];decide) names_ascii htab
  have e:(bs namesL).data.toList=namesL:=by simp[bs]
  rw[e,names_fields]at h
  refine h.mono fun e w' ⟨h1,h2⟩=>⟨h1,_,h2,fun k hk=> ?_⟩
  have hl:k<fullL.length:=by rw[full_len];exact hk
  rw[List.getElem?_toArray,List.getElem?_map,sU hl,List.getD,sU hl]
  rfl
theorem cJ{p:Prop}(h:p:=by
 go_wp2_with fail
 go_ret
 exact⟨by rw[HN2.out];rfl,HBE.out⟩):p:=h
theorem name_any (op rd rs1 rs2 imm : Int) (hop : 1 ≤ op ∧ op ≤ 59) (hi : 46 ≤ op ∧ op ≤ 56 → 0 ≤ imm ∧ imm ≤ 3) (w : World) (HT : Hid (Go.Lib.TabBelow Tryz.prog w.heap.size w "strings.asciiSpace" .u8 Lib.asciiSpaceTab)) :
    Calls Tryz.prog 96 #[.agg #[.int .i64 op,.int .i64 rd,.int .i64 rs1,.int .i64 rs2,.int .i32 imm]] w fun e w'=>e=.returned (.string (bs (nameS op imm)))∧Below w.heap.size w w':=by
  obtain⟨k,hk⟩:=sQ (show 0≤op-1 by omega)
  obtain rfl:op=(k:Int)+1:=om
  have hk59:k<59:=om
  obtain⟨w1,hw1⟩:∃w1,w1=w.alloc (.cells #[.int .i64 ((k:Int)+1),.int .i64 rd,.int .i64 rs1,.int .i64 rs2,.int .i32 imm] 91):=⟨_,rfl⟩
  have hb1:Below w.heap.size w w1:=zI
  have hs1:w1.heap.size=w.heap.size+1:=zO
  have c0:w1.cell? ⟨w.heap.size,0,none⟩=some (.int .i64 ((k:Int)+1)):=zA
  have c4:w1.cell? ⟨w.heap.size,4,none⟩=some (.int .i32 imm):=zA
  obtain⟨b0,hb0⟩:∃b,b=bs (fullL.getD k []):=⟨_,rfl⟩
  obtain⟨bF,hbF⟩:∃b,b=bs (nameS ((k:Int)+1) imm):=⟨_,rfl⟩
  rw[←hbF]
  have hz0:b0.size≤10:=by rw[hb0,QU];exact full_short k hk59
  have HCK:Hid (∀cs:Array Value,(∀k,k<59→cs[k]? =some (.string (bs (fullL.getD k []))))→cs[k]? =some (.string b0)):=lI (fun cs h=>by rw[hb0];exact h k hk59)
  have HN:Hid (bF=b0++bs (if 46≤(k:Int)+1∧(k:Int)+1≤56 then sfx imm else [])):=lI (by
    rw[hbF,hb0,jk]
    unfold nameS
    rw[show((k:Int)+1-1).toNat=k by omega])
  have HB1:=lI hb1
  have HW1:=lI hw1
  have HS1:=lI hs1
  have hlw:w.heap.size<w1.heap.size:=om
  clear hw1 hb0 hbF hb1 hs1
  go_enter Tryz.func96,Tryz.ntmps96
  go_upto_region 1 with(fail)
  rw[←HW1.out]
  have i0:(0:Int)≤(k:Int):=om
  have i1:(k:Int)<59:=om
  go_cut [3]from 4 to 9 (fun t3 wx=>t3=.string b0∧Hid (Below w1.heap.size w1 wx))
  case first=>
    refine wp_region_held_drew (S:=fun W=>Below w1.heap.size w1 W) kr (Below.drew br) (fun hHeld=> ?_)
    refine tak 1 (.pointer (some ⟨w.heap.size,0,none⟩)) ?_
    try simp only[sA,sB,sC,Act.put,sD,sE,sG]
    refine wpAnyH_take (i:=2) (v:=.int .i64 ((k:Int)+1)) rfl kr kr kr (fun _ _ _ h=>h) (Or.inl ⟨by rfl, ?_⟩) (by assumption) ?_
    · (try simp only[sA,sB,sC]);intro w' hSw;(try dsimp only at hSw);have c0':=(hSw.cell (p:=⟨w.heap.size,0,none⟩) zN).trans c0;go_simp
    try simp only[sA,sB,sC,Act.put,sD,sE,sG]
    refine wpAnyH_take (i:=3) (v:=.int .i64 (k:Int)) rfl kr kr kr (fun _ _ _ h=>h) (Or.inl ⟨by rfl, ?_⟩) (by assumption) ?_
    · (try simp only[sA,sB,sC]);intro w' hSw;(try dsimp only at hSw);go_simp;simp (disch:=omega) only[IntWalk.i64_in]
    try simp only[sA,sB,sC,Act.put,sD,sE,sG]
    refine wpAnyH_ready (rs:=[0]) kr zC ?_
    refine sS rfl (fun K hK=> ?_) AllReadyH.nil
    go_simp
    refine(fields_names _ (HT.out _ (HB1.out.trans (Below.mono (Below.drew (Below.refl w1.heap.size w1)) om)))).mono ?_
    rintro e w7 ⟨rfl,cs,rfl,hcs⟩
    have hck:=HCK.out cs hcs
    clear hcs
    have hS7:Below w1.heap.size w1 (w1.drew.alloc (.cells cs 9)):=(Below.drew br).alloc (sN _) _
    refine hK.out _ _ hS7 (fun hHeld2=> ?_)
    clear hK K
    refine tak 4 (.pointer (some ⟨w1.heap.size,k,none⟩)) ?_
    try simp only[sA,sB,sC,Act.put,sD,sE,sG]
    refine wpAnyH_ready (rs:=[5]) kr zC ?_
    refine sS rfl (fun K hK=> ?_) AllReadyH.nil
    go_simp
    refine hK.out _ _ hS7 (fun hHeld3=> ?_)
    clear hK K
    refine tak 6 (.string b0) ?_
    try simp only[sA,sB,sC,Act.put,sD,sE,sG]
    refine wpAnyH_done kr ?_ _
    go_wp2_with fail
    go_meet
    case rel=>exact⟨rfl,lI hS7⟩
  case rest=>
    obtain⟨rfl,HW⟩:=hcut
    have hbw:=HW.out
    have d0:=(hbw.cell (p:=⟨w.heap.size,0,none⟩) zN).trans c0
    have d4:=(hbw.cell (p:=⟨w.heap.size,4,none⟩) zN).trans c4
    clear hbw c0 c4
    have HBE:=lI (HB1.out.trans (HW.out.mono HB1.out.size))
    by_cases ha:46≤(k:Int)+1∧(k:Int)+1≤56
    · obtain⟨ha1,ha2⟩:=ha
      have him:=hi ⟨ha1,ha2⟩
      have HN2:Hid (bF=b0++bs (sfx imm)):=lI (by rw[HN.out,if_pos ⟨ha1,ha2⟩])
      have hx0:∀(W:World),(Instr.index 218 (.agg #[.string ⟨#[]⟩,.string ⟨#[46,114,108]⟩,.string ⟨#[46,97,113]⟩,.string ⟨#[46,97,113,114,108]⟩]) (.int .i32 0)).run Tryz.prog W=.ok (.string (bs (sfx 0))) W:=fun W=>by kernel_rfl
      have hx1:∀(W:World),(Instr.index 218 (.agg #[.string ⟨#[]⟩,.string ⟨#[46,114,108]⟩,.string ⟨#[46,97,113]⟩,.string ⟨#[46,97,113,114,108]⟩]) (.int .i32 1)).run Tryz.prog W=.ok (.string (bs (sfx 1))) W:=fun W=>by kernel_rfl
      have hx2:∀(W:World),(Instr.index 218 (.agg #[.string ⟨#[]⟩,.string ⟨#[46,114,108]⟩,.string ⟨#[46,97,113]⟩,.string ⟨#[46,97,113,114,108]⟩]) (.int .i32 2)).run Tryz.prog W=.ok (.string (bs (sfx 2))) W:=fun W=>by kernel_rfl
      have hx3:∀(W:World),(Instr.index 218 (.agg #[.string ⟨#[]⟩,.string ⟨#[46,114,108]⟩,.string ⟨#[46,97,113]⟩,.string ⟨#[46,97,113,114,108]⟩]) (.int .i32 3)).run Tryz.prog W=.ok (.string (bs (sfx 3))) W:=fun W=>by kernel_rfl
      have hsz:∀v:Int,b0.size+(bs (sfx v)).size≤100:=fun v=>by rw[QU];have:=sfx_len v;omega
      have HSZ:=lI hsz
      clear hi HN hsz
      have hbt:∀v:Int,v=0∨v=1∨v=2∨v=3→bits BinOp.and IntKind.i32 v 3=v:=by rintro v (rfl|rfl|rfl|rfl)<;>rfl
      have HBT:=lI hbt
      clear hbt
      obtain rfl|rfl|rfl|rfl:imm=0∨imm=1∨imm=2∨imm=3:=om
      · have hb:=HBT.out 0 om
        have hs0:=HSZ.out 0
        clear hx1 hx2 hx3
        exact cJ
      · have hb:=HBT.out 1 om
        have hs0:=HSZ.out 1
        clear hx0 hx2 hx3
        exact cJ
      · have hb:=HBT.out 2 om
        have hs0:=HSZ.out 2
        clear hx0 hx1 hx3
        exact cJ
      · have hb:=HBT.out 3 om
        have hs0:=HSZ.out 3
        clear hx0 hx1 hx2
        exact cJ
    · have HN2:Hid (bF=b0):=lI (by
        rw[HN.out,if_neg ha,show bs []=ByteArray.empty from rfl]
        exact ByteArray.append_empty)
      by_cases h46:46≤(k:Int)+1
      · have h56:¬(k:Int)+1≤56:=fun h=>ha ⟨h46,h⟩
        clear ha hi HN
        exact cJ
      · clear ha hi HN
        exact cJ
end Go.Proofs.YtlfnddmncbkjaabGreatDoor.W
