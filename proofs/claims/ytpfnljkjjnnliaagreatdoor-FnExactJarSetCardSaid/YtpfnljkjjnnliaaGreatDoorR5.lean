/- Functions of the library and of the program that are walked by hand. -/
import Derived.Shelf.Strings.Builder1
import Derived.Shelf.Strings.Builder2
import Derived.Shelf.Strings.OnBuilder
import Derived.Shelf.Strings.Trim
import Derived.Shelf.Small.Utf8
import Derived.Shelf.Small.Strs
import Derived.Shelf.Small.Wraps
import Derived.Shelf.Strings.BuilderF
import Derived.Shelf.Strings.BuilderK
import Derived.Shelf.Utf8.RuneCount
import Derived.Shelf.Strconv.Atoi
import Derived.Shelf.Strconv.Itoa0
import Derived.Shelf.Strconv.Itoa1
import Derived.Shelf.LaysM
import Derived.Shelf.Strconv.Itoa2
import Derived.Shelf.Strconv.Itoa3
import Derived.Shelf.Strconv.AtoiErrFast
import Derived.Shelf.Strconv.ParseIntEmpty
import Derived.Shelf.Strconv.AtoiFail
import Derived.Shelf.Strconv.Clone
import Derived.Shelf.Strconv.SyntaxError
import Derived.Shelf.LaysC
import Derived.Shelf.Strconv.ToError
import Derived.Shelf.Strconv.Lower
import Derived.Shelf.Strconv.ParseUint10
import Derived.Shelf.Strconv.ParseUint10Empty
import Derived.Shelf.Strconv.ParseUint10Any
import Derived.Shelf.Strconv.ParseInt10
import Derived.Shelf.Strconv.AtoiLong
import Derived.Shelf.Strconv.AtoiInnerAll
import Derived.Shelf.Strconv.RangeError
import Derived.Shelf.Strconv.ToErrorRange
import Derived.Shelf.Strconv.AtoiAll
import Derived.Shelf.Strings.Search1
import Derived.Shelf.Strings.Search2
import Derived.Shelf.Strings.Search3
import Derived.Shelf.Strings.Cut
import Derived.Shelf.Strings.Count
import Derived.Shelf.Strings.Shaped
import Derived.Shelf.Strings.LastIndex
import Derived.Shelf.Strings.Prefix
import Derived.Shelf.Strings.Split
import Derived.Shelf.Strings.Replace
import Derived.Shelf.Strings.SplitShaped
import Derived.Shelf.Unicode.Decode
import Derived.Shelf.Strings.Runes
import Derived.Shelf.Strings.RuneCount
import Derived.Shelf.Strings.IndexAny
import Derived.Shelf.Strings.AsciiSet
import Derived.Shelf.Strings.IndexAnyAll
import Derived.Shelf.Strings.Explode
import Derived.Shelf.Unicode.DecodeSlow
import Derived.Shelf.Unicode.DecodeAny
import Derived.Shelf.Unicode.DecodeLast
import Derived.Shelf.Slices.Turned
import Derived.Shelf.Slices.Equal
import Derived.Ground.Names2Prog
import Derived.Shelf.Slices.Clone
import Derived.Shelf.Slices.SearchI
import Derived.Shelf.Slices.Empties2
import Derived.Ground.SlgnProg
import Derived.Shelf.SlicesE.Clone
import Derived.Test.YtpfnljkjjnnliaaGreatDoorProg
import Derived.Lib.SplitLaws
import Derived.Below
import Derived.KernelRfl
import Derived.Laws.Strings
import Derived.Lib.LaidTab
import Derived.Lib.LaidU8
import Derived.Lib.ItoaNum
import Derived.Lib.AppendIntMem
import Derived.LaidLaws
import Derived.Test.YtpfnljkjjnnliaaGreatDoorR4
import Derived.Deep.Draws
import Derived.Deep.AppendLies
import Derived.Maps.AppendAt
import Derived.OwnWalk
import Derived.Laws.BytesArg
import Derived.Laws.MakeOwn
import Derived.Laws.OwnMore
import Derived.Deep.OwnRows
import Derived.Tactics
import Derived.Lib.ConvBytes
import Derived.Laws.Slices
import Derived.WalkKit
import Derived.RowKit3
import Derived.Deep.LoopGhost
import Derived.Deep.QuietTactic
import Derived.BigQuiet
import Derived.WideLaws
import Derived.Deep.DeepCutAuto
import Derived.Deep.CutBlock
import Derived.Deep.RegionHeld3
import Derived.Laws.Rows
import Derived.Lib.AppendStr
import Derived.ArgAppend
import Derived.Laws.IdiomCopy
import Derived.OrdersHeld
import Derived.Laws.BitsLemmas
import Derived.RowKit
import Derived.Test.YtpfnljkjjnnliaaGreatDoorR3
import Derived.Laws.Runes
import Derived.Laws.RangeAny
import Derived.Lib.OthersKept
local macro "bo%" : term => `(by omega)
set_option linter.unusedVariables false
set_option linter.unusedSimpArgs false
set_option linter.unusedVariables false
namespace Go.Proofs
open Go.Shelf Go.RowKit
def Tryz.lays169_ren:Go.Shelf.Ren:=⟨fun | 169=>165 | n=>n,fun | 70=>144 | 9=>9 | 0=>0 | 72=>146 | 37=>22 | 127=>166 | 3=>3 | 5=>5 | n=>n,fun | n=>n⟩
theorem Tryz.lays169:Go.Proofs.Lays.n169 Tryz.prog Tryz.lays169_ren:={
  mixed:=by kernel_rfl
  f169:=Tryz.func165.trans (congrArg some (by kernel_rfl))
  t0:=Tryz.underlying0
  a0:=Tryz.isAgg0
  z0:=Tryz.sizeOf0
  v0:=Tryz.zeroValue0
  t3:=Tryz.underlying3
  a3:=Tryz.isAgg3
  z3:=Tryz.sizeOf3
  v3:=Tryz.zeroValue3
  t9:=Tryz.underlying9
  a9:=Tryz.isAgg9
  z9:=Tryz.sizeOf9
  v9:=Tryz.zeroValue9
  t37:=Tryz.underlying22
  a37:=Tryz.isAgg22
  z37:=Tryz.sizeOf22
  v37:=Tryz.zeroValue22
  t70:=Tryz.underlying144
  a70:=Tryz.isAgg144
  z70:=Tryz.sizeOf144
  v70:=Tryz.zeroValue144
  t72:=Tryz.underlying146
  a72:=Tryz.isAgg146
  z72:=Tryz.sizeOf146
  v72:=Tryz.zeroValue146
  t127:=Tryz.underlying166
  a127:=Tryz.isAgg166
  z127:=Tryz.sizeOf166
  v127:=Tryz.zeroValue166 }
theorem Tryz.Builder_Extra_169:Builder.Extra Tryz.prog Tryz.lays169_ren:={
  sizeBuilder:=by kernel_rfl
  liesBuilder:=by kernel_rfl
  t5:=Tryz.underlying5
  a5:=Tryz.isAgg5
  z5:=Tryz.sizeOf5
  v5:=Tryz.zeroValue5
  infoByte:=by kernel_rfl
  cellsByte:=by kernel_rfl
  sizeByte:=by kernel_rfl
  neB5:=by decide }
def Tryz.lays156_ren:Go.Shelf.Ren:=⟨fun | 156=>115 | 165=>163 | 166=>164 | 169=>165 | 240=>209 | 241=>210 | 276=>247 | 277=>248 | n=>n,fun | 31=>34 | 9=>9 | 3=>3 | 4=>4 | 0=>0 | 20=>20 | 72=>146 | 76=>133 | 70=>144 | 37=>22 | 75=>132 | 127=>166 | 164=>191 | 5=>5 | 80=>106 | n=>n,fun | n=>n⟩
theorem Tryz.lays156:Go.Proofs.Lays.n156 Tryz.prog Tryz.lays156_ren:={
  mixed:=by kernel_rfl
  f156:=Tryz.func115.trans (congrArg some (by kernel_rfl))
  f165:=Tryz.func163.trans (congrArg some (by kernel_rfl))
  f166:=Tryz.func164.trans (congrArg some (by kernel_rfl))
  f169:=Tryz.func165.trans (congrArg some (by kernel_rfl))
  f240:=Tryz.func209.trans (congrArg some (by kernel_rfl))
  f241:=Tryz.func210.trans (congrArg some (by kernel_rfl))
  f276:=Tryz.func247.trans (congrArg some (by kernel_rfl))
  f277:=Tryz.func248.trans (congrArg some (by kernel_rfl))
  t0:=Tryz.underlying0
  a0:=Tryz.isAgg0
  z0:=Tryz.sizeOf0
  v0:=Tryz.zeroValue0
  t3:=Tryz.underlying3
  a3:=Tryz.isAgg3
  z3:=Tryz.sizeOf3
  v3:=Tryz.zeroValue3
  t4:=Tryz.underlying4
  a4:=Tryz.isAgg4
  z4:=Tryz.sizeOf4
  v4:=Tryz.zeroValue4
  t9:=Tryz.underlying9
  a9:=Tryz.isAgg9
  z9:=Tryz.sizeOf9
  v9:=Tryz.zeroValue9
  t20:=Tryz.underlying20
  a20:=Tryz.isAgg20
  z20:=Tryz.sizeOf20
  v20:=Tryz.zeroValue20
  t31:=Tryz.underlying34
  a31:=Tryz.isAgg34
  z31:=Tryz.sizeOf34
  v31:=Tryz.zeroValue34
  t37:=Tryz.underlying22
  a37:=Tryz.isAgg22
  z37:=Tryz.sizeOf22
  v37:=Tryz.zeroValue22
  t70:=Tryz.underlying144
  a70:=Tryz.isAgg144
  z70:=Tryz.sizeOf144
  v70:=Tryz.zeroValue144
  t72:=Tryz.underlying146
  a72:=Tryz.isAgg146
  z72:=Tryz.sizeOf146
  v72:=Tryz.zeroValue146
  t75:=Tryz.underlying132
  a75:=Tryz.isAgg132
  z75:=Tryz.sizeOf132
  v75:=Tryz.zeroValue132
  t76:=Tryz.underlying133
  a76:=Tryz.isAgg133
  z76:=Tryz.sizeOf133
  v76:=Tryz.zeroValue133
  t127:=Tryz.underlying166
  a127:=Tryz.isAgg166
  z127:=Tryz.sizeOf166
  v127:=Tryz.zeroValue166
  t164:=Tryz.underlying191
  a164:=Tryz.isAgg191
  z164:=Tryz.sizeOf191
  v164:=Tryz.zeroValue191 }
theorem Tryz.Builder_Extra_156:Builder.Extra Tryz.prog Tryz.lays156_ren:={
  sizeBuilder:=by kernel_rfl
  liesBuilder:=by kernel_rfl
  t5:=Tryz.underlying5
  a5:=Tryz.isAgg5
  z5:=Tryz.sizeOf5
  v5:=Tryz.zeroValue5
  infoByte:=by kernel_rfl
  cellsByte:=by kernel_rfl
  sizeByte:=by kernel_rfl
  neB5:=by decide }
open Go.RowKit in
theorem Tryz.strings_Join_none (a:Option Addr) (c:Nat) (sep:ByteArray) (w:World) :
    Calls Tryz.prog 115 #[.slice a 0 c,.string sep] w fun e w'=>e=.returned (.string ⟨#[]⟩)∧w'=w:=Any.strings_Join_none Tryz.lays156 Tryz.Builder_Extra_156 a c sep w
open Go.RowKit in
theorem Tryz.strings_Join (bk o c:Nat) (xs:List ByteArray) (sep:ByteArray) (w:World) (hcells:∀(j:Nat) x,xs[j]? = some x→w.cell? ⟨bk,o+j,none⟩=some (.string x)) (hbk:bk<w.heap.size) (hN:xs.length≤140737488355328) (hcap:xs.length≤c) (hlen:(Lib.join (xs.map (·.data.toList)) sep.data.toList).length≤140737488355328) :
    Calls Tryz.prog 115 #[.slice (some ⟨bk,o,none⟩) xs.length c,.string sep] w fun e w'=>e=.returned (.string ⟨(Lib.join (xs.map (·.data.toList)) sep.data.toList).toArray⟩)∧Below w.heap.size w w':=Any.strings_Join Tryz.lays156 Tryz.Builder_Extra_156 bk o c xs sep w hcells hbk hN hcap hlen
def Tryz.lays160_ren:Go.Shelf.Ren:=⟨fun | 160=>57 | 232=>120 | 231=>119 | 227=>121 | 234=>123 | 233=>122 | 236=>125 | 235=>124 | 228=>171 | 271=>174 | 151=>173 | 197=>172 | 120=>218 | 152=>217 | 260=>216 | 137=>130 | 119=>250 | 224=>214 | 225=>213 | 217=>179 | 266=>224 | n=>n,fun | 9=>9 | 4=>4 | 3=>3 | 5=>5 | 117=>126 | 116=>125 | 0=>0 | 124=>129 | 21=>21 | 105=>150 | 46=>167 | 119=>197 | 139=>200 | 138=>199 | n=>n,fun | 3=>2 | 4=>3 | n=>n⟩
theorem Tryz.lays160:Go.Proofs.Lays.n160 Tryz.prog Tryz.lays160_ren:={
  mixed:=by kernel_rfl
  f119:=Tryz.func250.trans (congrArg some (by kernel_rfl))
  f120:=Tryz.func218.trans (congrArg some (by kernel_rfl))
  f137:=Tryz.func130.trans (congrArg some (by kernel_rfl))
  f151:=Tryz.func173.trans (congrArg some (by kernel_rfl))
  f152:=Tryz.func217.trans (congrArg some (by kernel_rfl))
  f160:=Tryz.func57.trans (congrArg some (by kernel_rfl))
  f197:=Tryz.func172.trans (congrArg some (by kernel_rfl))
  f217:=Tryz.func179.trans (congrArg some (by kernel_rfl))
  f224:=Tryz.func214.trans (congrArg some (by kernel_rfl))
  f225:=Tryz.func213.trans (congrArg some (by kernel_rfl))
  f227:=Tryz.func121.trans (congrArg some (by kernel_rfl))
  f228:=Tryz.func171.trans (congrArg some (by kernel_rfl))
  f231:=Tryz.func119.trans (congrArg some (by kernel_rfl))
  f232:=Tryz.func120.trans (congrArg some (by kernel_rfl))
  f233:=Tryz.func122.trans (congrArg some (by kernel_rfl))
  f234:=Tryz.func123.trans (congrArg some (by kernel_rfl))
  f235:=Tryz.func124.trans (congrArg some (by kernel_rfl))
  f236:=Tryz.func125.trans (congrArg some (by kernel_rfl))
  f260:=Tryz.func216.trans (congrArg some (by kernel_rfl))
  f266:=Tryz.func224.trans (congrArg some (by kernel_rfl))
  f271:=Tryz.func174.trans (congrArg some (by kernel_rfl))
  t0:=Tryz.underlying0
  a0:=Tryz.isAgg0
  z0:=Tryz.sizeOf0
  v0:=Tryz.zeroValue0
  t3:=Tryz.underlying3
  a3:=Tryz.isAgg3
  z3:=Tryz.sizeOf3
  v3:=Tryz.zeroValue3
  t4:=Tryz.underlying4
  a4:=Tryz.isAgg4
  z4:=Tryz.sizeOf4
  v4:=Tryz.zeroValue4
  t5:=Tryz.underlying5
  a5:=Tryz.isAgg5
  z5:=Tryz.sizeOf5
  v5:=Tryz.zeroValue5
  t9:=Tryz.underlying9
  a9:=Tryz.isAgg9
  z9:=Tryz.sizeOf9
  v9:=Tryz.zeroValue9
  t21:=Tryz.underlying21
  a21:=Tryz.isAgg21
  z21:=Tryz.sizeOf21
  v21:=Tryz.zeroValue21
  t46:=Tryz.underlying167
  a46:=Tryz.isAgg167
  z46:=Tryz.sizeOf167
  v46:=Tryz.zeroValue167
  t105:=Tryz.underlying150
  a105:=Tryz.isAgg150
  z105:=Tryz.sizeOf150
  v105:=Tryz.zeroValue150
  t116:=Tryz.underlying125
  a116:=Tryz.isAgg125
  z116:=Tryz.sizeOf125
  t117:=Tryz.underlying126
  a117:=Tryz.isAgg126
  z117:=Tryz.sizeOf126
  v117:=Tryz.zeroValue126
  t119:=Tryz.underlying197
  a119:=Tryz.isAgg197
  z119:=Tryz.sizeOf197
  t124:=Tryz.underlying129
  a124:=Tryz.isAgg129
  z124:=Tryz.sizeOf129
  v124:=Tryz.zeroValue129
  t138:=Tryz.underlying199
  a138:=Tryz.isAgg199
  z138:=Tryz.sizeOf199
  v138:=Tryz.zeroValue199
  t139:=Tryz.underlying200
  a139:=Tryz.isAgg200
  z139:=Tryz.sizeOf200
  v139:=Tryz.zeroValue200
  g3:=by kernel_rfl
  g4:=by kernel_rfl }
open Go.RowKit in
theorem Tryz.strings_Trim_one (s:ByteArray) (c:UInt8) (hc:c.toNat<128) (w:World) (hs:s.size≤9223372036854775807) :
    Calls Tryz.prog 57 #[.string s,.string ⟨#[c]⟩] w fun e w'=>e=.returned (.string ⟨(Lib.trimB s.data.toList c).toArray⟩)∧(w'=w∨w'=w.drew):=Any.strings_Trim_one Tryz.lays160 s c hc w hs
def Tryz.lays119_ren:Go.Shelf.Ren:=⟨fun | 119=>250 | n=>n,fun | 21=>21 | 4=>4 | n=>n,fun | n=>n⟩
theorem Tryz.lays119:Go.Proofs.Lays.n119 Tryz.prog Tryz.lays119_ren:={
  mixed:=by kernel_rfl
  f119:=Tryz.func250.trans (congrArg some (by kernel_rfl))
  t4:=Tryz.underlying4
  a4:=Tryz.isAgg4
  z4:=Tryz.sizeOf4
  v4:=Tryz.zeroValue4
  t21:=Tryz.underlying21
  a21:=Tryz.isAgg21
  z21:=Tryz.sizeOf21
  v21:=Tryz.zeroValue21 }
theorem Tryz.utf8_ValidRune (r:Int) (w:World) :
    Calls Tryz.prog 250 #[.int .i32 r] w fun e w'=>e=.returned (.bool (Lib.validRune r))∧w'=w:=Any.utf8_ValidRune Tryz.lays119 r w
def Tryz.lays137_ren:Go.Shelf.Ren:=⟨fun | 137=>130 | 217=>179 | 266=>224 | n=>n,fun | 9=>9 | 5=>5 | 3=>3 | n=>n,fun | n=>n⟩
theorem Tryz.lays137:Go.Proofs.Lays.n137 Tryz.prog Tryz.lays137_ren:={
  mixed:=by kernel_rfl
  f137:=Tryz.func130.trans (congrArg some (by kernel_rfl))
  f217:=Tryz.func179.trans (congrArg some (by kernel_rfl))
  f266:=Tryz.func224.trans (congrArg some (by kernel_rfl))
  t3:=Tryz.underlying3
  a3:=Tryz.isAgg3
  z3:=Tryz.sizeOf3
  v3:=Tryz.zeroValue3
  t5:=Tryz.underlying5
  a5:=Tryz.isAgg5
  z5:=Tryz.sizeOf5
  v5:=Tryz.zeroValue5
  t9:=Tryz.underlying9
  a9:=Tryz.isAgg9
  z9:=Tryz.sizeOf9
  v9:=Tryz.zeroValue9 }
open Go.RowKit in
theorem Tryz.strings_IndexByte (s:ByteArray) (c:Int) (w:World) :
    Calls Tryz.prog 130 #[.string s,.int .u8 c] w fun e w'=>e=.returned (.int .i64 (Lib.indexByte s.data.toList c.toNat.toUInt8))∧w'=w:=Any.strings_IndexByte Tryz.lays137 s c w
open Go.RowKit in
theorem Tryz.Builder_String_any_k (B b:Nat) (l:List UInt8) (w:World) (h:Lib.IsBuilderF 146 5 B b (Lib.byteCells l) w) (hBw:B≤w.heap.size) :
    Calls Tryz.prog 165 #[.pointer (some ⟨b,0,none⟩)] w fun e w'=>e=.returned (.string ⟨l.toArray⟩)∧(Lib.IsBuilderF 146 5 B b (Lib.byteCells l) w'∧Below B w w'∧Lib.OthersKept 5 (some b) w w'):=Any.Builder_String_any_k Tryz.lays169 Tryz.Builder_Extra_169 B b l w h hBw
def Tryz.laysM171_ren:Go.Shelf.Ren:=⟨fun | 171=>114 | 243=>162 | 246=>208 | 283=>243 | 284=>244 | 285=>245 | 286=>246 | 129=>266 | 317=>265 | 318=>267 | 319=>268 | 320=>269 | 337=>279 | 338=>280 | n=>n,fun | 3=>3 | 9=>9 | 2=>2 | 4=>4 | 171=>185 | 0=>0 | 53=>186 | 37=>22 | 5=>5 | 173=>189 | 212=>211 | 51=>194 | 20=>20 | 213=>212 | 46=>167 | 232=>221 | 233=>222 | n=>n,fun | 17=>6 | 18=>7 | 19=>8 | n=>n⟩
theorem Tryz.laysM171:Go.Proofs.LaysM.n171 Tryz.prog Tryz.laysM171_ren:={
  mixed:=by kernel_rfl
  f129:=Tryz.func266.trans (congrArg some (by kernel_rfl))
  f171:=Tryz.func114.trans (congrArg some (by kernel_rfl))
  f243:=Tryz.func162.trans (congrArg some (by kernel_rfl))
  f246:=Tryz.func208.trans (congrArg some (by kernel_rfl))
  f283:=Tryz.func243.trans (congrArg some (by kernel_rfl))
  f284:=Tryz.func244.trans (congrArg some (by kernel_rfl))
  f285:=Tryz.func245.trans (congrArg some (by kernel_rfl))
  f286:=Tryz.func246.trans (congrArg some (by kernel_rfl))
  f317:=Tryz.func265.trans (congrArg some (by kernel_rfl))
  f318:=Tryz.func267.trans (congrArg some (by kernel_rfl))
  f319:=Tryz.func268.trans (congrArg some (by kernel_rfl))
  f320:=Tryz.func269.trans (congrArg some (by kernel_rfl))
  f337:=Tryz.func279.trans (congrArg some (by kernel_rfl))
  f338:=Tryz.func280.trans (congrArg some (by kernel_rfl))
  t0:=Tryz.underlying0
  a0:=Tryz.isAgg0
  z0:=Tryz.sizeOf0
  v0:=Tryz.zeroValue0
  t2:=Tryz.underlying2
  a2:=Tryz.isAgg2
  z2:=Tryz.sizeOf2
  v2:=Tryz.zeroValue2
  t3:=Tryz.underlying3
  a3:=Tryz.isAgg3
  z3:=Tryz.sizeOf3
  v3:=Tryz.zeroValue3
  t4:=Tryz.underlying4
  a4:=Tryz.isAgg4
  z4:=Tryz.sizeOf4
  v4:=Tryz.zeroValue4
  t5:=Tryz.underlying5
  a5:=Tryz.isAgg5
  z5:=Tryz.sizeOf5
  v5:=Tryz.zeroValue5
  t9:=Tryz.underlying9
  a9:=Tryz.isAgg9
  z9:=Tryz.sizeOf9
  v9:=Tryz.zeroValue9
  t20:=Tryz.underlying20
  a20:=Tryz.isAgg20
  z20:=Tryz.sizeOf20
  v20:=Tryz.zeroValue20
  t37:=Tryz.underlying22
  a37:=Tryz.isAgg22
  z37:=Tryz.sizeOf22
  v37:=Tryz.zeroValue22
  t46:=Tryz.underlying167
  a46:=Tryz.isAgg167
  z46:=Tryz.sizeOf167
  v46:=Tryz.zeroValue167
  t51:=Tryz.underlying194
  a51:=Tryz.isAgg194
  z51:=Tryz.sizeOf194
  v51:=Tryz.zeroValue194
  t53:=Tryz.underlying186
  a53:=Tryz.isAgg186
  z53:=Tryz.sizeOf186
  v53:=Tryz.zeroValue186
  t171:=Tryz.underlying185
  a171:=Tryz.isAgg185
  z171:=Tryz.sizeOf185
  v171:=Tryz.zeroValue185
  t173:=Tryz.underlying189
  a173:=Tryz.isAgg189
  z173:=Tryz.sizeOf189
  v173:=Tryz.zeroValue189
  t212:=Tryz.underlying211
  a212:=Tryz.isAgg211
  z212:=Tryz.sizeOf211
  v212:=Tryz.zeroValue211
  t213:=Tryz.underlying212
  a213:=Tryz.isAgg212
  z213:=Tryz.sizeOf212
  t232:=Tryz.underlying221
  a232:=Tryz.isAgg221
  z232:=Tryz.sizeOf221
  v232:=Tryz.zeroValue221
  t233:=Tryz.underlying222
  a233:=Tryz.isAgg222
  z233:=Tryz.sizeOf222
  v233:=Tryz.zeroValue222
  g17:=by kernel_rfl
  g18:=by kernel_rfl
  g19:=by kernel_rfl
  i0:=by kernel_rfl
  i2:=by kernel_rfl
  i3:=by kernel_rfl
  i4:=by kernel_rfl
  i5:=by kernel_rfl
  i9:=by kernel_rfl
  i20:=by kernel_rfl
  i37:=by kernel_rfl
  i46:=by kernel_rfl
  i51:=by kernel_rfl
  i53:=by kernel_rfl
  i171:=by kernel_rfl
  i173:=by kernel_rfl
  i212:=by kernel_rfl
  i232:=by kernel_rfl
  i233:=by kernel_rfl
  m17:=by kernel_rfl
  m18:=by kernel_rfl
  m19:=by kernel_rfl }
open Go.RowKit Go.Sort Go.Lib in
theorem Tryz.strconv_Itoa (n:Int) (h0:-9223372036854775808≤n) (h1:n≤9223372036854775807) (w:World) (htab:Lib.TabIs Tryz.prog w "internal/strconv.uint64pow10" .u64 Lib.pow10Tab) :
    Calls Tryz.prog 114 #[.int .i64 n] w fun e w'=>e=.returned (.string ⟨(Lib.itoa n).toArray⟩)∧∃k os,w'=grow (w.drewN k) os:=Any.strconv_Itoa Tryz.laysM171 n h0 h1 w htab
def Tryz.laysC172_ren:Go.Shelf.Ren:=⟨fun | 172=>128 | 244=>177 | 245=>178 | 247=>219 | 279=>220 | 280=>221 | 281=>222 | 282=>223 | 287=>251 | 316=>252 | 171=>114 | 205=>253 | 321=>270 | 322=>271 | 243=>162 | 246=>208 | 283=>243 | 284=>244 | 285=>245 | 286=>246 | 129=>266 | 317=>265 | 318=>267 | 319=>268 | 320=>269 | 337=>279 | 338=>280 | n=>n,fun | 9=>9 | 3=>3 | 75=>132 | 76=>133 | 4=>4 | 5=>5 | 167=>169 | 37=>22 | 0=>0 | 85=>170 | 2=>2 | 168=>172 | 53=>186 | 175=>202 | 46=>167 | 210=>205 | 127=>166 | 145=>217 | 143=>215 | 21=>21 | 171=>185 | 173=>189 | 212=>211 | 51=>194 | 20=>20 | 213=>212 | 232=>221 | 233=>222 | 80=>106 | n=>n,fun | 15=>4 | 16=>5 | 17=>6 | 18=>7 | 19=>8 | n=>n⟩
theorem Tryz.laysC172:Go.Proofs.LaysC.n172 Tryz.prog Tryz.laysC172_ren:={
  mixed:=by kernel_rfl
  f129:=Tryz.func266.trans (congrArg some (by kernel_rfl))
  f171:=Tryz.func114.trans (congrArg some (by kernel_rfl))
  f172:=Tryz.func128.trans (congrArg some (by kernel_rfl))
  f205:=Tryz.func253.trans (congrArg some (by kernel_rfl))
  f243:=Tryz.func162.trans (congrArg some (by kernel_rfl))
  f244:=Tryz.func177.trans (congrArg some (by kernel_rfl))
  f245:=Tryz.func178.trans (congrArg some (by kernel_rfl))
  f246:=Tryz.func208.trans (congrArg some (by kernel_rfl))
  f247:=Tryz.func219.trans (congrArg some (by kernel_rfl))
  f279:=Tryz.func220.trans (congrArg some (by kernel_rfl))
  f280:=Tryz.func221.trans (congrArg some (by kernel_rfl))
  f281:=Tryz.func222.trans (congrArg some (by kernel_rfl))
  f282:=Tryz.func223.trans (congrArg some (by kernel_rfl))
  f283:=Tryz.func243.trans (congrArg some (by kernel_rfl))
  f284:=Tryz.func244.trans (congrArg some (by kernel_rfl))
  f285:=Tryz.func245.trans (congrArg some (by kernel_rfl))
  f286:=Tryz.func246.trans (congrArg some (by kernel_rfl))
  f287:=Tryz.func251.trans (congrArg some (by kernel_rfl))
  f316:=Tryz.func252.trans (congrArg some (by kernel_rfl))
  f317:=Tryz.func265.trans (congrArg some (by kernel_rfl))
  f318:=Tryz.func267.trans (congrArg some (by kernel_rfl))
  f319:=Tryz.func268.trans (congrArg some (by kernel_rfl))
  f320:=Tryz.func269.trans (congrArg some (by kernel_rfl))
  f321:=Tryz.func270.trans (congrArg some (by kernel_rfl))
  f322:=Tryz.func271.trans (congrArg some (by kernel_rfl))
  f337:=Tryz.func279.trans (congrArg some (by kernel_rfl))
  f338:=Tryz.func280.trans (congrArg some (by kernel_rfl))
  t0:=Tryz.underlying0
  a0:=Tryz.isAgg0
  z0:=Tryz.sizeOf0
  v0:=Tryz.zeroValue0
  t2:=Tryz.underlying2
  a2:=Tryz.isAgg2
  z2:=Tryz.sizeOf2
  v2:=Tryz.zeroValue2
  t3:=Tryz.underlying3
  a3:=Tryz.isAgg3
  z3:=Tryz.sizeOf3
  v3:=Tryz.zeroValue3
  t4:=Tryz.underlying4
  a4:=Tryz.isAgg4
  z4:=Tryz.sizeOf4
  v4:=Tryz.zeroValue4
  t5:=Tryz.underlying5
  a5:=Tryz.isAgg5
  z5:=Tryz.sizeOf5
  v5:=Tryz.zeroValue5
  t9:=Tryz.underlying9
  a9:=Tryz.isAgg9
  z9:=Tryz.sizeOf9
  v9:=Tryz.zeroValue9
  t20:=Tryz.underlying20
  a20:=Tryz.isAgg20
  z20:=Tryz.sizeOf20
  v20:=Tryz.zeroValue20
  t21:=Tryz.underlying21
  a21:=Tryz.isAgg21
  z21:=Tryz.sizeOf21
  v21:=Tryz.zeroValue21
  t37:=Tryz.underlying22
  a37:=Tryz.isAgg22
  z37:=Tryz.sizeOf22
  v37:=Tryz.zeroValue22
  t46:=Tryz.underlying167
  a46:=Tryz.isAgg167
  z46:=Tryz.sizeOf167
  v46:=Tryz.zeroValue167
  t51:=Tryz.underlying194
  a51:=Tryz.isAgg194
  z51:=Tryz.sizeOf194
  v51:=Tryz.zeroValue194
  t53:=Tryz.underlying186
  a53:=Tryz.isAgg186
  z53:=Tryz.sizeOf186
  v53:=Tryz.zeroValue186
  t75:=Tryz.underlying132
  a75:=Tryz.isAgg132
  z75:=Tryz.sizeOf132
  v75:=Tryz.zeroValue132
  t76:=Tryz.underlying133
  a76:=Tryz.isAgg133
  z76:=Tryz.sizeOf133
  v76:=Tryz.zeroValue133
  t85:=Tryz.underlying170
  a85:=Tryz.isAgg170
  z85:=Tryz.sizeOf170
  v85:=Tryz.zeroValue170
  t127:=Tryz.underlying166
  a127:=Tryz.isAgg166
  z127:=Tryz.sizeOf166
  v127:=Tryz.zeroValue166
  t143:=Tryz.underlying215
  a143:=Tryz.isAgg215
  z143:=Tryz.sizeOf215
  v143:=Tryz.zeroValue215
  t145:=Tryz.underlying217
  a145:=Tryz.isAgg217
  z145:=Tryz.sizeOf217
  v145:=Tryz.zeroValue217
  t167:=Tryz.underlying169
  a167:=Tryz.isAgg169
  z167:=Tryz.sizeOf169
  v167:=Tryz.zeroValue169
  t168:=Tryz.underlying172
  a168:=Tryz.isAgg172
  z168:=Tryz.sizeOf172
  v168:=Tryz.zeroValue172
  t171:=Tryz.underlying185
  a171:=Tryz.isAgg185
  z171:=Tryz.sizeOf185
  v171:=Tryz.zeroValue185
  t173:=Tryz.underlying189
  a173:=Tryz.isAgg189
  z173:=Tryz.sizeOf189
  v173:=Tryz.zeroValue189
  t175:=Tryz.underlying202
  a175:=Tryz.isAgg202
  z175:=Tryz.sizeOf202
  v175:=Tryz.zeroValue202
  t210:=Tryz.underlying205
  a210:=Tryz.isAgg205
  z210:=Tryz.sizeOf205
  v210:=Tryz.zeroValue205
  t212:=Tryz.underlying211
  a212:=Tryz.isAgg211
  z212:=Tryz.sizeOf211
  v212:=Tryz.zeroValue211
  t213:=Tryz.underlying212
  a213:=Tryz.isAgg212
  z213:=Tryz.sizeOf212
  t232:=Tryz.underlying221
  a232:=Tryz.isAgg221
  z232:=Tryz.sizeOf221
  v232:=Tryz.zeroValue221
  t233:=Tryz.underlying222
  a233:=Tryz.isAgg222
  z233:=Tryz.sizeOf222
  v233:=Tryz.zeroValue222
  g15:=by kernel_rfl
  g16:=by kernel_rfl
  g17:=by kernel_rfl
  g18:=by kernel_rfl
  g19:=by kernel_rfl
  t80:=Tryz.underlying106
  a80:=Tryz.isAgg106
  z80:=Tryz.sizeOf106
  v80:=Tryz.zeroValue106
  i0:=by kernel_rfl
  i2:=by kernel_rfl
  i3:=by kernel_rfl
  i4:=by kernel_rfl
  i5:=by kernel_rfl
  i9:=by kernel_rfl
  i20:=by kernel_rfl
  i21:=by kernel_rfl
  i37:=by kernel_rfl
  i46:=by kernel_rfl
  i51:=by kernel_rfl
  i53:=by kernel_rfl
  i75:=by kernel_rfl
  i76:=by kernel_rfl
  i80:=by kernel_rfl
  i85:=by kernel_rfl
  i127:=by kernel_rfl
  i143:=by kernel_rfl
  i145:=by kernel_rfl
  i167:=by kernel_rfl
  i168:=by kernel_rfl
  i171:=by kernel_rfl
  i173:=by kernel_rfl
  i175:=by kernel_rfl
  i210:=by kernel_rfl
  i212:=by kernel_rfl
  i232:=by kernel_rfl
  i233:=by kernel_rfl
  m15:=by kernel_rfl
  m16:=by kernel_rfl
  m17:=by kernel_rfl
  m18:=by kernel_rfl
  m19:=by kernel_rfl
  c0:=by kernel_rfl
  c2:=by kernel_rfl
  c3:=by kernel_rfl
  c4:=by kernel_rfl
  c5:=by kernel_rfl
  c9:=by kernel_rfl
  c20:=by kernel_rfl
  c21:=by kernel_rfl
  c37:=by kernel_rfl
  c46:=by kernel_rfl
  c51:=by kernel_rfl
  c53:=by kernel_rfl
  c75:=by kernel_rfl
  c76:=by kernel_rfl
  c80:=by kernel_rfl
  c85:=by kernel_rfl
  c127:=by kernel_rfl
  c143:=by kernel_rfl
  c145:=by kernel_rfl
  c167:=by kernel_rfl
  c168:=by kernel_rfl
  c171:=by kernel_rfl
  c173:=by kernel_rfl
  c175:=by kernel_rfl
  c210:=by kernel_rfl
  c212:=by kernel_rfl
  c213:=by kernel_rfl
  c232:=by kernel_rfl
  c233:=by kernel_rfl }
open Go.RowKit in
theorem Tryz.strconv_Atoi_ok (s:ByteArray) (hmax:s.size≤9223372036854775806) (v:Int) (h:Lib.atoiAll s.data.toList=.ok v) (w:World) :
    Calls Tryz.prog 128 #[.string s] w fun e w'=>e=.returned (.tuple #[.int .i64 v,.nilIface])∧(w'=w∨∃t,w'=Lib.bytesWorld w 5 t):=Any.strconv_Atoi_ok Tryz.laysC172 s hmax v h w
open Go.RowKit in
theorem Tryz.strconv_Atoi_syntax (s:ByteArray) (hlim:s.size≤281474976710656) (h:Lib.atoiAll s.data.toList=.«syntax») (ev:Value) (w:World) (hv:w.cell? ⟨4,0,none⟩=some ev) (hev:ev=.nilIface∨∃te pe,ev=.iface te pe) :
    Calls Tryz.prog 128 #[.string s] w fun e w'=>∃N,e=.returned (.tuple #[.int .i64 (0),.iface 172 (.pointer (some ⟨N,0,none⟩))])∧w.heap.size≤N∧w'.heap[N]? = some (.cells #[.string ⟨#[65,116,111,105]⟩,.string s,ev] 205 (0,0))∧Below w.heap.size w w':=Any.strconv_Atoi_syntax Tryz.laysC172 s hlim h ev w hv hev
open Go.RowKit in
theorem Tryz.strconv_Atoi_range (s:ByteArray) (hlim:s.size≤281474976710656) (h:Lib.atoiAll s.data.toList=.range) (ev:Value) (w:World) (hv:w.cell? ⟨5,0,none⟩=some ev) (hev:ev=.nilIface∨∃te pe,ev=.iface te pe) :
    Calls Tryz.prog 128 #[.string s] w fun e w'=>∃N,e=.returned (.tuple #[.int .i64 (Lib.atoiSat s.data.toList),.iface 172 (.pointer (some ⟨N,0,none⟩))])∧w.heap.size≤N∧w'.heap[N]? = some (.cells #[.string ⟨#[65,116,111,105]⟩,.string s,ev] 205 (0,0))∧Below w.heap.size w w':=Any.strconv_Atoi_range Tryz.laysC172 s hlim h ev w hv hev
def Tryz.lays145_ren:Go.Shelf.Ren:=⟨fun | 145=>56 | 220=>118 | 219=>170 | 217=>179 | 225=>213 | 224=>214 | 267=>215 | 266=>224 | 314=>249 | n=>n,fun | 9=>9 | 4=>4 | 59=>79 | 3=>3 | 5=>5 | 46=>167 | 146=>195 | 51=>194 | n=>n,fun | 1=>0 | n=>n⟩
theorem Tryz.lays145:Go.Proofs.Lays.n145 Tryz.prog Tryz.lays145_ren:={
  mixed:=by kernel_rfl
  f145:=Tryz.func56.trans (congrArg some (by kernel_rfl))
  f217:=Tryz.func179.trans (congrArg some (by kernel_rfl))
  f219:=Tryz.func170.trans (congrArg some (by kernel_rfl))
  f220:=Tryz.func118.trans (congrArg some (by kernel_rfl))
  f224:=Tryz.func214.trans (congrArg some (by kernel_rfl))
  f225:=Tryz.func213.trans (congrArg some (by kernel_rfl))
  f266:=Tryz.func224.trans (congrArg some (by kernel_rfl))
  f267:=Tryz.func215.trans (congrArg some (by kernel_rfl))
  f314:=Tryz.func249.trans (congrArg some (by kernel_rfl))
  t3:=Tryz.underlying3
  a3:=Tryz.isAgg3
  z3:=Tryz.sizeOf3
  v3:=Tryz.zeroValue3
  t4:=Tryz.underlying4
  a4:=Tryz.isAgg4
  z4:=Tryz.sizeOf4
  v4:=Tryz.zeroValue4
  t5:=Tryz.underlying5
  a5:=Tryz.isAgg5
  z5:=Tryz.sizeOf5
  v5:=Tryz.zeroValue5
  t9:=Tryz.underlying9
  a9:=Tryz.isAgg9
  z9:=Tryz.sizeOf9
  v9:=Tryz.zeroValue9
  t46:=Tryz.underlying167
  a46:=Tryz.isAgg167
  z46:=Tryz.sizeOf167
  v46:=Tryz.zeroValue167
  t51:=Tryz.underlying194
  a51:=Tryz.isAgg194
  z51:=Tryz.sizeOf194
  v51:=Tryz.zeroValue194
  t59:=Tryz.underlying79
  a59:=Tryz.isAgg79
  z59:=Tryz.sizeOf79
  v59:=Tryz.zeroValue79
  t146:=Tryz.underlying195
  a146:=Tryz.isAgg195
  z146:=Tryz.sizeOf195
  v146:=Tryz.zeroValue195
  g1:=by kernel_rfl }
open Go.RowKit Go.Lib in
theorem Tryz.strings_Cut (s sep:ByteArray) (m:Int) (w:World) (hs:s.size<4294967281) (hm:w.cell? ⟨0,0,none⟩=some (.int .i64 m)) :
    Calls Tryz.prog 56 #[.string s,.string sep] w fun e w'=>e=.returned (.tuple #[.string ⟨(Lib.cut s.data.toList sep.data.toList).1.toArray⟩,.string ⟨(Lib.cut s.data.toList sep.data.toList).2.1.toArray⟩,.bool (Lib.cut s.data.toList sep.data.toList).2.2])∧∃n,w'=w.drewN n:=Any.strings_Cut Tryz.lays145 s sep m w hs hm
def Tryz.lays146_ren:Go.Shelf.Ren:=⟨fun | 146=>55 | 221=>117 | 268=>167 | 138=>168 | 143=>169 | 195=>211 | 197=>172 | 218=>212 | 219=>170 | 260=>216 | 217=>179 | 225=>213 | 224=>214 | 267=>215 | 266=>224 | 314=>249 | n=>n,fun | 9=>9 | 31=>34 | 3=>3 | 4=>4 | 0=>0 | 105=>150 | 21=>21 | 5=>5 | 46=>167 | 119=>197 | 139=>200 | 138=>199 | 146=>195 | 51=>194 | n=>n,fun | 1=>0 | 3=>2 | 4=>3 | n=>n⟩
theorem Tryz.lays146:Go.Proofs.Lays.n146 Tryz.prog Tryz.lays146_ren:={
  mixed:=by kernel_rfl
  f138:=Tryz.func168.trans (congrArg some (by kernel_rfl))
  f143:=Tryz.func169.trans (congrArg some (by kernel_rfl))
  f146:=Tryz.func55.trans (congrArg some (by kernel_rfl))
  f195:=Tryz.func211.trans (congrArg some (by kernel_rfl))
  f197:=Tryz.func172.trans (congrArg some (by kernel_rfl))
  f217:=Tryz.func179.trans (congrArg some (by kernel_rfl))
  f218:=Tryz.func212.trans (congrArg some (by kernel_rfl))
  f219:=Tryz.func170.trans (congrArg some (by kernel_rfl))
  f221:=Tryz.func117.trans (congrArg some (by kernel_rfl))
  f224:=Tryz.func214.trans (congrArg some (by kernel_rfl))
  f225:=Tryz.func213.trans (congrArg some (by kernel_rfl))
  f260:=Tryz.func216.trans (congrArg some (by kernel_rfl))
  f266:=Tryz.func224.trans (congrArg some (by kernel_rfl))
  f267:=Tryz.func215.trans (congrArg some (by kernel_rfl))
  f268:=Tryz.func167.trans (congrArg some (by kernel_rfl))
  f314:=Tryz.func249.trans (congrArg some (by kernel_rfl))
  t0:=Tryz.underlying0
  a0:=Tryz.isAgg0
  z0:=Tryz.sizeOf0
  v0:=Tryz.zeroValue0
  t3:=Tryz.underlying3
  a3:=Tryz.isAgg3
  z3:=Tryz.sizeOf3
  v3:=Tryz.zeroValue3
  t4:=Tryz.underlying4
  a4:=Tryz.isAgg4
  z4:=Tryz.sizeOf4
  v4:=Tryz.zeroValue4
  t5:=Tryz.underlying5
  a5:=Tryz.isAgg5
  z5:=Tryz.sizeOf5
  v5:=Tryz.zeroValue5
  t9:=Tryz.underlying9
  a9:=Tryz.isAgg9
  z9:=Tryz.sizeOf9
  v9:=Tryz.zeroValue9
  t21:=Tryz.underlying21
  a21:=Tryz.isAgg21
  z21:=Tryz.sizeOf21
  v21:=Tryz.zeroValue21
  t31:=Tryz.underlying34
  a31:=Tryz.isAgg34
  z31:=Tryz.sizeOf34
  v31:=Tryz.zeroValue34
  t46:=Tryz.underlying167
  a46:=Tryz.isAgg167
  z46:=Tryz.sizeOf167
  v46:=Tryz.zeroValue167
  t51:=Tryz.underlying194
  a51:=Tryz.isAgg194
  z51:=Tryz.sizeOf194
  v51:=Tryz.zeroValue194
  t105:=Tryz.underlying150
  a105:=Tryz.isAgg150
  z105:=Tryz.sizeOf150
  v105:=Tryz.zeroValue150
  t119:=Tryz.underlying197
  a119:=Tryz.isAgg197
  z119:=Tryz.sizeOf197
  t138:=Tryz.underlying199
  a138:=Tryz.isAgg199
  z138:=Tryz.sizeOf199
  v138:=Tryz.zeroValue199
  t139:=Tryz.underlying200
  a139:=Tryz.isAgg200
  z139:=Tryz.sizeOf200
  v139:=Tryz.zeroValue200
  t146:=Tryz.underlying195
  a146:=Tryz.isAgg195
  z146:=Tryz.sizeOf195
  v146:=Tryz.zeroValue195
  g1:=by kernel_rfl
  g3:=by kernel_rfl
  g4:=by kernel_rfl }
open Go.RowKit Go.Lib in
theorem Tryz.strings_Split (s sep:ByteArray) (m:Int) (w:World) (hs:s.size<4294967281) (hm:w.cell? ⟨0,0,none⟩=some (.int .i64 m)) (h1:1≤sep.size) :
    Calls Tryz.prog 55 #[.string s,.string sep] w fun e w' =>
      e=.returned (.slice (some ⟨w.heap.size,0,none⟩) (Lib.countB s sep+1) (Lib.countB s sep+1))∧w'=w.alloc (.cells ((Lib.splitB sep 0 (Lib.countB s sep) s).map Value.string).toArray 9):=Any.strings_Split Tryz.lays146 (by kernel_rfl) s sep m w hs hm h1
def Tryz.lays155_ren:Go.Shelf.Ren:=⟨fun | 155=>263 | 154=>278 | 138=>168 | 165=>163 | 143=>169 | 166=>164 | 197=>172 | 169=>165 | 195=>211 | 218=>212 | 240=>209 | 241=>210 | 219=>170 | 260=>216 | 276=>247 | 277=>248 | 217=>179 | 225=>213 | 224=>214 | 267=>215 | 266=>224 | 314=>249 | n=>n,fun | 9=>9 | 3=>3 | 4=>4 | 72=>146 | 0=>0 | 76=>133 | 105=>150 | 21=>21 | 5=>5 | 70=>144 | 20=>20 | 37=>22 | 75=>132 | 127=>166 | 164=>191 | 46=>167 | 119=>197 | 139=>200 | 138=>199 | 146=>195 | 51=>194 | 80=>106 | n=>n,fun | 1=>0 | 3=>2 | 4=>3 | n=>n⟩
theorem Tryz.lays155:Go.Proofs.Lays.n155 Tryz.prog Tryz.lays155_ren:={
  mixed:=by kernel_rfl
  f138:=Tryz.func168.trans (congrArg some (by kernel_rfl))
  f143:=Tryz.func169.trans (congrArg some (by kernel_rfl))
  f154:=Tryz.func278.trans (congrArg some (by kernel_rfl))
  f155:=Tryz.func263.trans (congrArg some (by kernel_rfl))
  f165:=Tryz.func163.trans (congrArg some (by kernel_rfl))
  f166:=Tryz.func164.trans (congrArg some (by kernel_rfl))
  f169:=Tryz.func165.trans (congrArg some (by kernel_rfl))
  f195:=Tryz.func211.trans (congrArg some (by kernel_rfl))
  f197:=Tryz.func172.trans (congrArg some (by kernel_rfl))
  f217:=Tryz.func179.trans (congrArg some (by kernel_rfl))
  f218:=Tryz.func212.trans (congrArg some (by kernel_rfl))
  f219:=Tryz.func170.trans (congrArg some (by kernel_rfl))
  f224:=Tryz.func214.trans (congrArg some (by kernel_rfl))
  f225:=Tryz.func213.trans (congrArg some (by kernel_rfl))
  f240:=Tryz.func209.trans (congrArg some (by kernel_rfl))
  f241:=Tryz.func210.trans (congrArg some (by kernel_rfl))
  f260:=Tryz.func216.trans (congrArg some (by kernel_rfl))
  f266:=Tryz.func224.trans (congrArg some (by kernel_rfl))
  f267:=Tryz.func215.trans (congrArg some (by kernel_rfl))
  f276:=Tryz.func247.trans (congrArg some (by kernel_rfl))
  f277:=Tryz.func248.trans (congrArg some (by kernel_rfl))
  f314:=Tryz.func249.trans (congrArg some (by kernel_rfl))
  t0:=Tryz.underlying0
  a0:=Tryz.isAgg0
  z0:=Tryz.sizeOf0
  v0:=Tryz.zeroValue0
  t3:=Tryz.underlying3
  a3:=Tryz.isAgg3
  z3:=Tryz.sizeOf3
  v3:=Tryz.zeroValue3
  t4:=Tryz.underlying4
  a4:=Tryz.isAgg4
  z4:=Tryz.sizeOf4
  v4:=Tryz.zeroValue4
  t5:=Tryz.underlying5
  a5:=Tryz.isAgg5
  z5:=Tryz.sizeOf5
  v5:=Tryz.zeroValue5
  t9:=Tryz.underlying9
  a9:=Tryz.isAgg9
  z9:=Tryz.sizeOf9
  v9:=Tryz.zeroValue9
  t20:=Tryz.underlying20
  a20:=Tryz.isAgg20
  z20:=Tryz.sizeOf20
  v20:=Tryz.zeroValue20
  t21:=Tryz.underlying21
  a21:=Tryz.isAgg21
  z21:=Tryz.sizeOf21
  v21:=Tryz.zeroValue21
  t37:=Tryz.underlying22
  a37:=Tryz.isAgg22
  z37:=Tryz.sizeOf22
  v37:=Tryz.zeroValue22
  t46:=Tryz.underlying167
  a46:=Tryz.isAgg167
  z46:=Tryz.sizeOf167
  v46:=Tryz.zeroValue167
  t51:=Tryz.underlying194
  a51:=Tryz.isAgg194
  z51:=Tryz.sizeOf194
  v51:=Tryz.zeroValue194
  t70:=Tryz.underlying144
  a70:=Tryz.isAgg144
  z70:=Tryz.sizeOf144
  v70:=Tryz.zeroValue144
  t72:=Tryz.underlying146
  a72:=Tryz.isAgg146
  z72:=Tryz.sizeOf146
  v72:=Tryz.zeroValue146
  t75:=Tryz.underlying132
  a75:=Tryz.isAgg132
  z75:=Tryz.sizeOf132
  v75:=Tryz.zeroValue132
  t76:=Tryz.underlying133
  a76:=Tryz.isAgg133
  z76:=Tryz.sizeOf133
  v76:=Tryz.zeroValue133
  t105:=Tryz.underlying150
  a105:=Tryz.isAgg150
  z105:=Tryz.sizeOf150
  v105:=Tryz.zeroValue150
  t119:=Tryz.underlying197
  a119:=Tryz.isAgg197
  z119:=Tryz.sizeOf197
  t127:=Tryz.underlying166
  a127:=Tryz.isAgg166
  z127:=Tryz.sizeOf166
  v127:=Tryz.zeroValue166
  t138:=Tryz.underlying199
  a138:=Tryz.isAgg199
  z138:=Tryz.sizeOf199
  v138:=Tryz.zeroValue199
  t139:=Tryz.underlying200
  a139:=Tryz.isAgg200
  z139:=Tryz.sizeOf200
  v139:=Tryz.zeroValue200
  t146:=Tryz.underlying195
  a146:=Tryz.isAgg195
  z146:=Tryz.sizeOf195
  v146:=Tryz.zeroValue195
  t164:=Tryz.underlying191
  a164:=Tryz.isAgg191
  z164:=Tryz.sizeOf191
  v164:=Tryz.zeroValue191
  g1:=by kernel_rfl
  g3:=by kernel_rfl
  g4:=by kernel_rfl }
theorem Tryz.Builder_Extra_155:Builder.Extra Tryz.prog Tryz.lays155_ren:={
  sizeBuilder:=by kernel_rfl
  liesBuilder:=by kernel_rfl
  t5:=Tryz.underlying5
  a5:=Tryz.isAgg5
  z5:=Tryz.sizeOf5
  v5:=Tryz.zeroValue5
  infoByte:=by kernel_rfl
  cellsByte:=by kernel_rfl
  sizeByte:=by kernel_rfl
  neB5:=by decide }
open Go.RowKit Go.Lib in
theorem Tryz.strings_ReplaceAll (s old new:ByteArray) (m:Int) (w:World) (hs:s.size<4294967281) (hm:w.cell? ⟨0,0,none⟩=some (.int .i64 m)) (h1:1≤old.size) (hlen:s.size+Lib.countB s old*new.size≤140737488355328) :
    Calls Tryz.prog 263 #[.string s,.string old,.string new] w fun e w' =>
      e=.returned (.string ⟨(Lib.replaceAll s.data.toList old.data.toList new.data.toList).toArray⟩)∧Below w.heap.size w w':=Any.strings_ReplaceAll Tryz.lays155 Tryz.Builder_Extra_155 s old new m w hs hm h1 hlen
def Tryz.lays152_ren:Go.Shelf.Ren:=⟨fun | 152=>217 | 137=>130 | 119=>250 | 224=>214 | 225=>213 | 217=>179 | 266=>224 | n=>n,fun | 9=>9 | 21=>21 | 3=>3 | 4=>4 | 5=>5 | 0=>0 | 46=>167 | n=>n,fun | n=>n⟩
theorem Tryz.lays152:Go.Proofs.Lays.n152 Tryz.prog Tryz.lays152_ren:={
  mixed:=by kernel_rfl
  f119:=Tryz.func250.trans (congrArg some (by kernel_rfl))
  f137:=Tryz.func130.trans (congrArg some (by kernel_rfl))
  f152:=Tryz.func217.trans (congrArg some (by kernel_rfl))
  f217:=Tryz.func179.trans (congrArg some (by kernel_rfl))
  f224:=Tryz.func214.trans (congrArg some (by kernel_rfl))
  f225:=Tryz.func213.trans (congrArg some (by kernel_rfl))
  f266:=Tryz.func224.trans (congrArg some (by kernel_rfl))
  t0:=Tryz.underlying0
  a0:=Tryz.isAgg0
  z0:=Tryz.sizeOf0
  v0:=Tryz.zeroValue0
  t3:=Tryz.underlying3
  a3:=Tryz.isAgg3
  z3:=Tryz.sizeOf3
  v3:=Tryz.zeroValue3
  t4:=Tryz.underlying4
  a4:=Tryz.isAgg4
  z4:=Tryz.sizeOf4
  v4:=Tryz.zeroValue4
  t5:=Tryz.underlying5
  a5:=Tryz.isAgg5
  z5:=Tryz.sizeOf5
  v5:=Tryz.zeroValue5
  t9:=Tryz.underlying9
  a9:=Tryz.isAgg9
  z9:=Tryz.sizeOf9
  v9:=Tryz.zeroValue9
  t21:=Tryz.underlying21
  a21:=Tryz.isAgg21
  z21:=Tryz.sizeOf21
  v21:=Tryz.zeroValue21
  t46:=Tryz.underlying167
  a46:=Tryz.isAgg167
  z46:=Tryz.sizeOf167
  v46:=Tryz.zeroValue167 }
open Go.RowKit Go.Lib in
theorem Tryz.strings_IndexRune_ascii (s:ByteArray) (r:Int) (w:World) (h0:0≤r) (h1:r<128) :
    Calls Tryz.prog 217 #[.string s,.int .i32 r] w fun e w'=>e=.returned (.int .i64 (Lib.indexByte s.data.toList r.toNat.toUInt8))∧w'=w:=Any.strings_IndexRune_ascii Tryz.lays152 s r w h0 h1
def Tryz.lays226_ren:Go.Shelf.Ren:=⟨fun | 226=>261 | n=>n,fun | 3=>3 | 4=>4 | n=>n,fun | n=>n⟩
theorem Tryz.lays226:Go.Proofs.Lays.n226 Tryz.prog Tryz.lays226_ren:={
  mixed:=by kernel_rfl
  f226:=Tryz.func261.trans (congrArg some (by kernel_rfl))
  t3:=Tryz.underlying3
  a3:=Tryz.isAgg3
  z3:=Tryz.sizeOf3
  v3:=Tryz.zeroValue3
  t4:=Tryz.underlying4
  a4:=Tryz.isAgg4
  z4:=Tryz.sizeOf4
  v4:=Tryz.zeroValue4 }
open Go.RowKit Go.Lib in
theorem Tryz.strings_shouldUseASCIISet (n:Int) (w:World) :
    Calls Tryz.prog 261 #[.int .i64 n] w fun e w'=>e=.returned (.bool (decide (8<n)))∧w'=w:=Any.strings_shouldUseASCIISet Tryz.lays226 n w
def Tryz.lays153_ren:Go.Shelf.Ren:=⟨fun | 153=>236 | 152=>217 | 226=>261 | 227=>121 | 228=>171 | 137=>130 | 119=>250 | 224=>214 | 225=>213 | 217=>179 | 266=>224 | n=>n,fun | 9=>9 | 3=>3 | 4=>4 | 5=>5 | 21=>21 | 117=>126 | 116=>125 | 0=>0 | 46=>167 | 124=>129 | n=>n,fun | n=>n⟩
theorem Tryz.lays153:Go.Proofs.Lays.n153 Tryz.prog Tryz.lays153_ren:={
  mixed:=by kernel_rfl
  f119:=Tryz.func250.trans (congrArg some (by kernel_rfl))
  f137:=Tryz.func130.trans (congrArg some (by kernel_rfl))
  f152:=Tryz.func217.trans (congrArg some (by kernel_rfl))
  f153:=Tryz.func236.trans (congrArg some (by kernel_rfl))
  f217:=Tryz.func179.trans (congrArg some (by kernel_rfl))
  f224:=Tryz.func214.trans (congrArg some (by kernel_rfl))
  f225:=Tryz.func213.trans (congrArg some (by kernel_rfl))
  f226:=Tryz.func261.trans (congrArg some (by kernel_rfl))
  f227:=Tryz.func121.trans (congrArg some (by kernel_rfl))
  f228:=Tryz.func171.trans (congrArg some (by kernel_rfl))
  f266:=Tryz.func224.trans (congrArg some (by kernel_rfl))
  t0:=Tryz.underlying0
  a0:=Tryz.isAgg0
  z0:=Tryz.sizeOf0
  v0:=Tryz.zeroValue0
  t3:=Tryz.underlying3
  a3:=Tryz.isAgg3
  z3:=Tryz.sizeOf3
  v3:=Tryz.zeroValue3
  t4:=Tryz.underlying4
  a4:=Tryz.isAgg4
  z4:=Tryz.sizeOf4
  v4:=Tryz.zeroValue4
  t5:=Tryz.underlying5
  a5:=Tryz.isAgg5
  z5:=Tryz.sizeOf5
  v5:=Tryz.zeroValue5
  t9:=Tryz.underlying9
  a9:=Tryz.isAgg9
  z9:=Tryz.sizeOf9
  v9:=Tryz.zeroValue9
  t21:=Tryz.underlying21
  a21:=Tryz.isAgg21
  z21:=Tryz.sizeOf21
  v21:=Tryz.zeroValue21
  t46:=Tryz.underlying167
  a46:=Tryz.isAgg167
  z46:=Tryz.sizeOf167
  v46:=Tryz.zeroValue167
  t116:=Tryz.underlying125
  a116:=Tryz.isAgg125
  z116:=Tryz.sizeOf125
  t117:=Tryz.underlying126
  a117:=Tryz.isAgg126
  z117:=Tryz.sizeOf126
  v117:=Tryz.zeroValue126
  t124:=Tryz.underlying129
  a124:=Tryz.isAgg129
  z124:=Tryz.sizeOf129
  v124:=Tryz.zeroValue129 }
open Go.RowKit Go.Lib in
theorem Tryz.strings_IndexAny_long (hv116:∀w,(zeroValue 125).run Tryz.prog w=.ok (.agg (Array.replicate 256 (.bool false))) w) (s chars:ByteArray) (w:World) (h2:2≤chars.size) (h8:8<s.size) (hs:s.size<4294967281) (hcs:chars.size<4294967281) (hascii:∀(j:Nat) b,chars.data.toList[j]? = some b→b.toNat<128) :
    Calls Tryz.prog 236 #[.string s,.string chars] w fun e w'=>e=.returned (.int .i64 (Lib.indexAny s.data.toList chars.data.toList))∧w'=((w.alloc (.cells (Lib.setCells chars.data.toList) 125)).alloc (.cells (Lib.setCells chars.data.toList) 125)):=Any.strings_IndexAny_long Tryz.lays153 hv116 (by kernel_rfl) s chars w h2 h8 hs hcs hascii
def Tryz.laysNm216_ren:Go.Shelf.Ren:=⟨fun | 16=>277 | n=>n,fun | 24=>34 | 9=>9 | 4=>4 | n=>n,fun | n=>n⟩
theorem Tryz.laysNm216:Go.Proofs.Lays2.n16 Tryz.prog Tryz.laysNm216_ren:={
  mixed:=by kernel_rfl
  f16:=Tryz.func277.trans (congrArg some (by kernel_rfl))
  t4:=Tryz.underlying4
  a4:=Tryz.isAgg4
  z4:=Tryz.sizeOf4
  v4:=Tryz.zeroValue4
  t9:=Tryz.underlying9
  a9:=Tryz.isAgg9
  z9:=Tryz.sizeOf9
  v9:=Tryz.zeroValue9
  t24:=Tryz.underlying34
  a24:=Tryz.isAgg34
  z24:=Tryz.sizeOf34
  v24:=Tryz.zeroValue34
  i9:=by kernel_rfl }
open Go.RowKit Go.Lib in
theorem Tryz.slices_Clone_string (b off n c:Nat) (zs:List ByteArray) (w:World) (hz:n≤zs.length) (hbig:n*16≤140737488355328) (hc:∀j,j<zs.length→w.cell? ⟨b,off+j,none⟩=some (.string (zs.getD j ByteArray.empty))) :
    Calls Tryz.prog 277 #[.slice (some ⟨b,off,none⟩) n c] w fun e w'=>∃v',e=.returned v'∧w'.ownsRow w.heap.size 9 1 v' n ((zs.take n).map (Value.string))∧v'≠.slice none 0 0∧Below w.heap.size w w':=Any.slices_Clone_string Tryz.laysNm216 b off n c zs w hz hbig hc
open Go.RowKit Go.Lib in
theorem Tryz.slices_Clone_string_nil (n c:Nat) (w:World) :
    Calls Tryz.prog 277 #[.slice none n c] w fun e w'=>e=.returned (.slice none 0 0)∧w'=w:=Any.slices_Clone_string_nil Tryz.laysNm216 n c w
open Go.RowKit Go.Lib in
theorem Tryz.slices_Clone_string_zero (a:Addr) (c:Nat) (w:World) :
    Calls Tryz.prog 277 #[.slice (some a) 0 c] w fun e w'=>∃v',e=.returned v'∧w'.ownsRow w.heap.size 9 1 v' 0 []∧v'≠.slice none 0 0∧Below w.heap.size w w':=Any.slices_Clone_string_zero Tryz.laysNm216 a c w
def Tryz.laysB_ren:Go.Shelf.Ren:=⟨fun | 167=>238 | 166=>164 | 240=>209 | 276=>247 | n=>n,fun | 0=>0 | 3=>3 | 4=>4 | 5=>5 | 9=>9 | 20=>20 | 70=>144 | 72=>146 | 164=>191 | 37=>22 | 75=>132 | 80=>106 | n=>n,fun | n=>n⟩
theorem Tryz.laysB167:Go.Proofs.Lays.n167 Tryz.prog Tryz.laysB_ren:={
  mixed:=by kernel_rfl
  f167:=Tryz.func238.trans (congrArg some (by kernel_rfl))
  f240:=Tryz.func209.trans (congrArg some (by kernel_rfl))
  f276:=Tryz.func247.trans (congrArg some (by kernel_rfl))
  t0:=Tryz.underlying0
  a0:=Tryz.isAgg0
  z0:=Tryz.sizeOf0
  v0:=Tryz.zeroValue0
  t4:=Tryz.underlying4
  a4:=Tryz.isAgg4
  z4:=Tryz.sizeOf4
  v4:=Tryz.zeroValue4
  t5:=Tryz.underlying5
  a5:=Tryz.isAgg5
  z5:=Tryz.sizeOf5
  v5:=Tryz.zeroValue5
  t9:=Tryz.underlying9
  a9:=Tryz.isAgg9
  z9:=Tryz.sizeOf9
  v9:=Tryz.zeroValue9
  t20:=Tryz.underlying20
  a20:=Tryz.isAgg20
  z20:=Tryz.sizeOf20
  v20:=Tryz.zeroValue20
  t37:=Tryz.underlying22
  a37:=Tryz.isAgg22
  z37:=Tryz.sizeOf22
  v37:=Tryz.zeroValue22
  t70:=Tryz.underlying144
  a70:=Tryz.isAgg144
  z70:=Tryz.sizeOf144
  v70:=Tryz.zeroValue144
  t72:=Tryz.underlying146
  a72:=Tryz.isAgg146
  z72:=Tryz.sizeOf146
  v72:=Tryz.zeroValue146
  t75:=Tryz.underlying132
  a75:=Tryz.isAgg132
  z75:=Tryz.sizeOf132
  v75:=Tryz.zeroValue132
  t164:=Tryz.underlying191
  a164:=Tryz.isAgg191
  z164:=Tryz.sizeOf191
  v164:=Tryz.zeroValue191 }
theorem Tryz.laysB166:Go.Proofs.Lays.n166 Tryz.prog Tryz.laysB_ren:={
  mixed:=by kernel_rfl
  f166:=Tryz.func164.trans (congrArg some (by kernel_rfl))
  f240:=Tryz.func209.trans (congrArg some (by kernel_rfl))
  f276:=Tryz.func247.trans (congrArg some (by kernel_rfl))
  t0:=Tryz.underlying0
  a0:=Tryz.isAgg0
  z0:=Tryz.sizeOf0
  v0:=Tryz.zeroValue0
  t3:=Tryz.underlying3
  a3:=Tryz.isAgg3
  z3:=Tryz.sizeOf3
  v3:=Tryz.zeroValue3
  t4:=Tryz.underlying4
  a4:=Tryz.isAgg4
  z4:=Tryz.sizeOf4
  v4:=Tryz.zeroValue4
  t9:=Tryz.underlying9
  a9:=Tryz.isAgg9
  z9:=Tryz.sizeOf9
  v9:=Tryz.zeroValue9
  t20:=Tryz.underlying20
  a20:=Tryz.isAgg20
  z20:=Tryz.sizeOf20
  v20:=Tryz.zeroValue20
  t37:=Tryz.underlying22
  a37:=Tryz.isAgg22
  z37:=Tryz.sizeOf22
  v37:=Tryz.zeroValue22
  t70:=Tryz.underlying144
  a70:=Tryz.isAgg144
  z70:=Tryz.sizeOf144
  v70:=Tryz.zeroValue144
  t72:=Tryz.underlying146
  a72:=Tryz.isAgg146
  z72:=Tryz.sizeOf146
  v72:=Tryz.zeroValue146
  t75:=Tryz.underlying132
  a75:=Tryz.isAgg132
  z75:=Tryz.sizeOf132
  v75:=Tryz.zeroValue132
  t164:=Tryz.underlying191
  a164:=Tryz.isAgg191
  z164:=Tryz.sizeOf191
  v164:=Tryz.zeroValue191 }
theorem Tryz.Builder_ExtraB:Builder.Extra Tryz.prog Tryz.laysB_ren:={
  sizeBuilder:=by kernel_rfl
  liesBuilder:=by kernel_rfl
  t5:=Tryz.underlying5
  a5:=Tryz.isAgg5
  z5:=Tryz.sizeOf5
  v5:=Tryz.zeroValue5
  infoByte:=by kernel_rfl
  cellsByte:=by kernel_rfl
  sizeByte:=by kernel_rfl
  neB5:=by decide }
theorem Tryz.Builder_WriteByte_kB (B b:Nat) (bs:List Value) (c:Int) (w:World) (h:Lib.IsBuilderF 146 5 B b bs w) (hlen:bs.length+1≤140737488355328) (hBw:B≤w.heap.size) :
    Calls Tryz.prog 238 #[.pointer (some ⟨b,0,none⟩),.int .u8 c] w fun e w'=>e=.returned .nilIface∧(Lib.BuilderAtF 146 5 B b (.pointer (some ⟨b,0,none⟩)) (bs++[.int .u8 c]) w'∧Below B w w'∧Lib.OthersKept 5 (some b) w w'):=Any.Builder_WriteByte_k Tryz.laysB167 Tryz.Builder_ExtraB B b bs c w h hlen hBw
theorem Tryz.Builder_WriteString_kB (B b:Nat) (bs:List Value) (s:ByteArray) (w:World) (h:Lib.IsBuilderF 146 5 B b bs w) (hlen:bs.length+s.size≤140737488355328) (hBw:B≤w.heap.size) :
    Calls Tryz.prog 164 #[.pointer (some ⟨b,0,none⟩),.string s] w fun e w'=>e=.returned (.tuple #[.int .i64 s.size,.nilIface])∧(Lib.BuilderAtF 146 5 B b (.pointer (some ⟨b,0,none⟩)) (bs++Lib.strCells s) w'∧Below B w w'∧Lib.OthersKept 5 (some b) w w'):=Any.Builder_WriteString_k Tryz.laysB166 Tryz.Builder_ExtraB B b bs s w h hlen hBw
end Go.Proofs
namespace Go.Proofs.YtpfnljkjjnnliaaGreatDoorQ
open Go.VM Go.RowKit
structure Hid (p:Prop):Prop where
 out:p
theorem cut_clip {P:Program} (t e:TypeId) (kh km:IntKind) {i:TypeInfo} (ht:P.underlying t=some (.slice e)) (hi:P.info? e=some i) (A:Option Addr) (n c:Nat) (hc:n≤c) :
  ∀W:World,(Instr.slice t (.slice A n c) none (some (.int kh n)) (some (.int km n))).run P W=.ok (.slice A n n) W:=by
 intro W
 have hel:P.elem t=e:=by simp[Program.elem,ht]
 have hu:P.underlying t=some (.slice (P.elem t)):=by rw[hel];exact ht
 have ha:(A.map fun x=>x.add 0)=A:=by cases A <;> simp[Addr.add]
 rw[run_slice_hm W t A n c hu kh km n n bo% (Int.le_refl _) bo%,hel]
 simp[sizeOf,typeInfo,hi,sliced,Result.andThen,ha]
theorem clip_ok (A:Option Addr) (n c:Nat) (hc:n≤c) (w:World) :
  Calls Tryz.prog 276 #[.slice A n c] w fun e w'=>e=.returned (.slice A n n)∧w'=w:=by
 obtain ⟨i0,hi0⟩:∃i,Tryz.prog.info? 9=some i:=Option.isSome_iff_exists.1 (by kernel_rfl)
 have hcut:=cut_clip (P:=Tryz.prog) 34 9 .i64 .i64 Tryz.underlying34 hi0 A n c hc
 go_enter Tryz.func276,Tryz.ntmps276
 go_wp2
 go_ret
 exact ⟨rfl,rfl⟩
theorem clone_ok (A:Option Addr) (n c:Nat) (w:World) (Q:Value→World→Prop)
  (h:Calls Tryz.prog 277 #[.slice A n c] w fun e w'=>∃B m d,e=.returned (.slice B m d)∧m≤d∧Q (.slice B m m) w') :
  Calls Tryz.prog 262 #[.slice A n c] w fun e w'=>∃V,e=.returned V∧Q V w':=by
 have hx:=Hid.mk h
 clear h
 go_enter Tryz.func262,Tryz.ntmps262
 go_wp2_with (first | (go_at_call 277;refine hx.out.mono ?_;rintro e w1 ⟨B,m,d,rfl,hm,hq⟩) | (go_at_call 276;refine (clip_ok _ _ _ hm _).mono ?_;rintro e w2 ⟨rfl,rfl⟩))
 go_ret
 exact ⟨_,rfl,hq⟩
theorem entersOf {f:FuncId} {fn:Func} {c:Code} (hf:Tryz.prog.funcs[f]? = some fn) (hname:(fn.name == "runtime.NumGoroutine")=false) (hb:fn.body=some c):Enters Tryz.prog f:=Go.Proofs.enters_of hf hname hb
theorem ext_clone {Γ:Ctx}:FnOk Tryz.prog Γ 262 ⟨[(.lst .str,0)],[(.lst .str,1)]⟩ x_impl_clone_string:=by
 refine fnok_row (fun _=>rfl) rfl (fun _=>rfl) (entersOf Tryz.func262 (by kernel_rfl) rfl) ?_
 rintro ⟨xs,⟨⟩⟩ ⟨ys,⟨⟩⟩ hF θ S w ι Vs hGl hS hA
 have key:∀(xs:List Bs) (V:Value),xs.length≤1073741824→RepC θ S w (.lst .str) xs [V]→Calls Tryz.prog 262 #[V] w fun e w'=>∃V,e=.returned V∧Below w.heap.size w w'∧V.oneCell'=true∧(∀b,blk V=some b→w.heap.size≤b) ∧
   ∀(ι':Nat→Value) (n:Nat),ι' n=V→ROb ι' θ S w' n (.row .str xs):=by
  intro xs V hl hV
  obtain ⟨p,cap,rfl,hcap,hx⟩:=rep_strs hV
  refine clone_ok p xs.length cap w (fun V w'=>Below w.heap.size w w'∧V.oneCell'=true∧(∀b,blk V=some b→w.heap.size≤b)∧∀(ι':Nat→Value) (n:Nat),ι' n=V→ROb ι' θ S w' n (.row .str xs)) ?_
  have own:∀(v':Value) (w':World),w'.ownsRow w.heap.size 9 1 v' xs.length ((xs.map mkB).map Value.string)→Below w.heap.size w w'→∃B m d,Ending.returned v'=.returned (.slice B m d)∧m≤d∧(Below w.heap.size w w'∧(Value.slice B m m).oneCell'=true∧(∀b,blk (.slice B m m)=some b→w.heap.size≤b)∧∀(ι':Nat→Value) (n:Nat),ι' n=.slice B m m→ROb ι' θ S w' n (.row .str xs)):=by
   rintro v' w' ⟨h1,h2⟩ hB
   rcases h2 with ⟨rfl,h0⟩ | ⟨g,cap,cur,rfl,hg,hh,hn,hm,hsz,htk⟩
   ·refine ⟨none,0,0,rfl,Nat.le_refl _,hB,rfl,fun b hb=>(by cases hb),fun ι' n hn=>?_⟩
    obtain rfl:=List.eq_nil_of_length_eq_zero h0
    exact ⟨Nat.one_pos,none,0,hn,Nat.le_refl _,.inl rfl⟩
   ·refine ⟨_,_,_,rfl,hn,hB,rfl,fun b hb=>?_,fun ι' n hn'=>row_strs g 0 _ _ hn' (Nat.le_refl _) (fun k hk=>?_) (fun i x hx=>?_)⟩
    ·simp only[blk] at hb
     split at hb
     ·cases hb
     ·obtain rfl:=Option.some.inj hb;exact hg
    ·rw[Nat.zero_add,Lib.cell_of_heap hh]
     exact ⟨⟨_,Array.getElem?_eq_getElem bo%⟩,Lib.frozen_of_heap hh k⟩
    ·rw[Nat.zero_add,Lib.cell_of_heap hh,←Array.getElem?_toList]
     have hi:=(List.getElem?_eq_some_iff.1 hx).1
     have h3:(cur.toList.take (xs.length*1))[i]? = some (.string (mkB x)):=by
      rw[htk,List.getElem?_map,List.getElem?_map,hx];rfl
     rwa [List.getElem?_take_of_lt bo%] at h3
  rcases hx with rfl | ⟨b,o,rfl,hb,hc⟩
  ·cases p with
   | none =>
    refine (Tryz.slices_Clone_string_nil 0 cap w).mono ?_
    rintro e w' ⟨rfl,rfl⟩
    exact own _ _ ⟨rfl,.inl ⟨rfl,rfl⟩⟩ (.refl _ _)
   | some a =>
    refine (Tryz.slices_Clone_string_zero a cap w).mono ?_
    rintro e w' ⟨v',rfl,ho,_,hB⟩
    exact own _ _ ho hB
  ·refine (Tryz.slices_Clone_string b o xs.length cap (xs.map mkB) w (by simp) bo% (fun j hj=>?_)).mono ?_
   ·rw[List.getD_eq_getElem?_getD,List.getElem?_eq_getElem hj]
    exact hc j _ (List.getElem?_eq_getElem hj)
   ·rintro e w' ⟨v',rfl,ho,_,hB⟩
    have ht:(xs.map mkB).take xs.length=xs.map mkB:=List.take_of_length_le (by simp)
    rw[ht] at ho
    exact own _ _ ho hB
 obtain ⟨V,rfl,hV⟩:=all2_one hA
 have hl:xs.length≤1073741824∧ys=xs:=by
  simp only[x_impl_clone_string] at hF
  split at hF
  ·rename_i h;injection hF with e;injection e with e1 e2;exact ⟨h,e1.symm⟩
  ·cases hF
 obtain ⟨hl,rfl⟩:=hl
 exact key _ V hl hV
end Go.Proofs.YtpfnljkjjnnliaaGreatDoorQ
set_option maxRecDepth 100000
namespace Go.VM.T0
open Go.Proofs Go.VM
noncomputable def tys:List (Nat×Ty):=[(2,(.int .i64)),
 (3,(.int .i64)),
 (4,.bool),
 (5,(.int .u8)),
 (6,(.int .u8)),
 (7,(.pair (.int .i64) (.pair (.int .i64) (.pair .bool (.pair (.int .u8) .unit))))),
 (8,(.pair (.int .i64) (.pair (.int .i64) (.pair .bool (.pair (.int .u8) .unit))))),
 (9,.str),
 (10,.str),
 (11,.str),
 (12,(.int .u64)),
 (13,(.pair .str (.pair (.int .u64) .unit))),
 (14,(.pair .str (.pair (.int .u64) .unit))),
 (21,(.int .i32)),
 (22,(.lst (.int .u8))),
 (23,(.lst (.pair .str (.pair .str (.pair .str (.pair .bool (.pair .str (.pair (.int .i64) (.pair .bool (.pair (.int .i64) (.pair (.int .i64) .unit))))))))))),
 (29,(.pair .str (.pair .str (.pair .str (.pair .bool (.pair .str (.pair (.int .i64) (.pair .bool (.pair (.int .i64) (.pair (.int .i64) .unit)))))))))),
 (30,(.pair .str (.pair .str (.pair .str (.pair .bool (.pair .str (.pair (.int .i64) (.pair .bool (.pair (.int .i64) (.pair (.int .i64) .unit)))))))))),
 (32,(.pair (.int .i64) (.pair .str (.pair (.int .i64) .unit)))),
 (33,(.pair (.int .i64) (.pair .str (.pair (.int .i64) .unit)))),
 (34,(.lst .str)),
 (35,(.pair .str (.pair .str (.pair .str (.pair (.pair (.int .i64) (.pair .str (.pair (.int .i64) .unit))) (.pair (.int .i64) (.pair (.lst .str) (.pair .str (.pair .bool (.pair .str (.pair .bool (.pair .str .unit)))))))))))),
 (36,(.pair .str (.pair .str (.pair .str (.pair (.pair (.int .i64) (.pair .str (.pair (.int .i64) .unit))) (.pair (.int .i64) (.pair (.lst .str) (.pair .str (.pair .bool (.pair .str (.pair .bool (.pair .str .unit)))))))))))),
 (47,(.lst (.pair .str (.pair .str (.pair .str (.pair .bool (.pair .str (.pair (.int .i64) (.pair .bool (.pair (.int .i64) (.pair (.int .i64) .unit))))))))))),
 (48,(.pair (.int .i64) (.pair .str (.pair (.int .i64) .unit)))),
 (49,(.pair .str (.pair .str (.pair .str (.pair (.pair (.int .i64) (.pair .str (.pair (.int .i64) .unit))) (.pair (.int .i64) (.pair (.lst .str) (.pair .str (.pair .bool (.pair .str (.pair .bool (.pair .str .unit)))))))))))),
 (50,(.pair .str (.pair .str (.pair .str (.pair (.pair (.int .i64) (.pair .str (.pair (.int .i64) .unit))) (.pair (.int .i64) (.pair (.lst .str) (.pair .str (.pair .bool (.pair .str (.pair .bool (.pair .str .unit)))))))))))),
 (93,(.pair .str (.pair .str (.pair .str (.pair .bool (.pair .str (.pair (.int .i64) (.pair .bool (.pair (.int .i64) (.pair (.int .i64) .unit)))))))))),
 (107,(.pair (.lst (.int .u8)) (.pair (.int .i64) .unit))),
 (108,(.pair (.lst (.int .u8)) (.pair (.int .i64) .unit))),
 (110,(.lst (.int .i64))),
 (131,.err),
 (132,.err),
 (167,(.int .u64)),
 (169,(.int .i64)),
 (186,(.int .u64)),
 (194,(.int .u32)),
 (198,(.pair (.int .u8) (.pair (.int .u8) .unit))),
 (199,(.pair (.int .u8) (.pair (.int .u8) .unit))),
 (204,(.pair .str (.pair .str (.pair .err .unit)))),
 (205,(.pair .str (.pair .str (.pair .err .unit)))),
 (216,(.pair .str .unit)),
 (217,(.pair .str .unit)),
 (229,(.int .u8)),
 (230,(.int .u8)),
 (232,(.int .i32)),
 (233,(.int .i32))]
noncomputable def eqs:List (Nat×Ty):=[(30,(.pair .str (.pair .str (.pair .str (.pair .bool (.pair .str (.pair (.int .i64) (.pair .bool (.pair (.int .i64) (.pair (.int .i64) .unit)))))))))),(33,(.pair (.int .i64) (.pair .str (.pair (.int .i64) .unit))))]
noncomputable def e237:Ent:=⟨⟨[((.int .u8),0)],[(.str,1)]⟩,none,Tryz.f237,[]⟩
noncomputable def e242:Ent:=⟨⟨[((.int .u8),0)],[((.int .i64),1)]⟩,none,Tryz.f242,[]⟩
noncomputable def e52:Ent:=⟨⟨[((.int .i64),0),((.int .i64),0),((.int .i64),0)],[(.bool,1)]⟩,none,Tryz.f52,[]⟩
noncomputable def Γ:Ctx:={ tys:=tys,globs:=[],ents:=[(237,e237),(242,e242),(52,e52)],eqs:=eqs }
noncomputable def ci_percent (n:Nat) (x0:Int):Option (Bs×Unit):=call Γ n 237 (x0,())
noncomputable def ci_hex (n:Nat) (x0:Int):Option (Int×Unit):=call Γ n 242 (x0,())
noncomputable def ci_in (n:Nat) (x0:Int) (x1:Int) (x2:Int):Option (Bool×Unit):=call Γ n 52 (x0,x1,x2,())
end Go.VM.T0
set_option maxRecDepth 100000
set_option linter.unusedVariables false
namespace Go.VM.T0
open Go.Proofs Go.VM
noncomputable def mi_percent (n:Nat) (x0:Int):Option (Bs×Unit):=grd (decide (0≤(4:Int))) (grd (decide (0≤(x0.fdiv (2 ^ (min (4:Int).toNat IntKind.u8.bits))))) (grd (decide ((x0.fdiv (2 ^ (min (4:Int).toNat IntKind.u8.bits)))<(([48,49,50,51,52,53,54,55,56,57,65,66,67,68,69,70]:Bs).length:Int))) (grd (decide (0≤(IntKind.u8.wrap (((BitVec.ofInt IntKind.u8.bits x0 &&& BitVec.ofInt IntKind.u8.bits (15:Int)).toNat:Int))))) (grd (decide ((IntKind.u8.wrap (((BitVec.ofInt IntKind.u8.bits x0 &&& BitVec.ofInt IntKind.u8.bits (15:Int)).toNat:Int)))<(([48,49,50,51,52,53,54,55,56,57,65,66,67,68,69,70]:Bs).length:Int))) (some ((strOf ([(37:Int),(bt ([48,49,50,51,52,53,54,55,56,57,65,66,67,68,69,70]:Bs) (x0.fdiv (2 ^ (min (4:Int).toNat IntKind.u8.bits)))),(bt ([48,49,50,51,52,53,54,55,56,57,65,66,67,68,69,70]:Bs) (IntKind.u8.wrap (((BitVec.ofInt IntKind.u8.bits x0 &&& BitVec.ofInt IntKind.u8.bits (15:Int)).toNat:Int))))]:List Int)),()))))))
theorem ei_percent (n:Nat) (x0:Int):ci_percent (n+1) x0=mi_percent n x0:=by kernel_rfl
noncomputable def mi_hex (n:Nat) (x0:Int):Option (Int×Unit):=bif (decide ((48:Int)≤x0)) then (bif (decide (x0≤(57:Int))) then (some ((IntKind.i64.wrap (IntKind.u8.wrap (x0-(48:Int)))),())) else (bif (decide ((97:Int)≤x0)) then (bif (decide (x0≤(102:Int))) then (some ((IntKind.i64.wrap ((IntKind.i64.wrap (IntKind.u8.wrap (x0-(97:Int))))+(10:Int))),())) else (bif (decide ((65:Int)≤x0)) then (bif (decide (x0≤(70:Int))) then (some ((IntKind.i64.wrap ((IntKind.i64.wrap (IntKind.u8.wrap (x0-(65:Int))))+(10:Int))),())) else (some ((-1:Int),()))) else (some ((-1:Int),())))) else (bif (decide ((65:Int)≤x0)) then (bif (decide (x0≤(70:Int))) then (some ((IntKind.i64.wrap ((IntKind.i64.wrap (IntKind.u8.wrap (x0-(65:Int))))+(10:Int))),())) else (some ((-1:Int),()))) else (some ((-1:Int),()))))) else (bif (decide ((97:Int)≤x0)) then (bif (decide (x0≤(102:Int))) then (some ((IntKind.i64.wrap ((IntKind.i64.wrap (IntKind.u8.wrap (x0-(97:Int))))+(10:Int))),())) else (bif (decide ((65:Int)≤x0)) then (bif (decide (x0≤(70:Int))) then (some ((IntKind.i64.wrap ((IntKind.i64.wrap (IntKind.u8.wrap (x0-(65:Int))))+(10:Int))),())) else (some ((-1:Int),()))) else (some ((-1:Int),())))) else (bif (decide ((65:Int)≤x0)) then (bif (decide (x0≤(70:Int))) then (some ((IntKind.i64.wrap ((IntKind.i64.wrap (IntKind.u8.wrap (x0-(65:Int))))+(10:Int))),())) else (some ((-1:Int),()))) else (some ((-1:Int),()))))
theorem ei_hex (n:Nat) (x0:Int):ci_hex (n+1) x0=mi_hex n x0:=by kernel_rfl
noncomputable def mi_in (n:Nat) (x0:Int) (x1:Int) (x2:Int):Option (Bool×Unit):=bif (decide (x1≤x0)) then (some ((decide (x0≤x2)),())) else (some (false,()))
theorem ei_in (n:Nat) (x0:Int) (x1:Int) (x2:Int):ci_in (n+1) x0 x1 x2=mi_in n x0 x1 x2:=by kernel_rfl
end Go.VM.T0
set_option maxRecDepth 100000
namespace Go.VM.T0
open Go.Proofs Go.VM
theorem tyOk_:TyOk Tryz.prog Γ.tys:=tyOk (by kernel_rfl)
theorem eqsOk_:EqsOk Tryz.prog Γ:=eqsOk (by kernel_rfl)
theorem k237:EntOk Tryz.prog Γ 237 e237:=EntOk.fun Tryz.func237 (by kernel_rfl)
theorem k242:EntOk Tryz.prog Γ 242 e242:=EntOk.fun Tryz.func242 (by kernel_rfl)
theorem k52:EntOk Tryz.prog Γ 52 e52:=EntOk.fun Tryz.func52 (by kernel_rfl)
theorem entsOk_  : EntsOk Tryz.prog Γ:=show EntsOn Tryz.prog Γ Γ.ents from .cons k237 (.cons k242 (.cons k52 (.nil)))
end Go.VM.T0
namespace Go.Proofs.YtpfnljkjjnnliaaGreatDoorQ
open Go.VM Go.RowKit
theorem mixed:Tryz.prog.follows .mixedOrders=true:=by kernel_rfl
theorem all0 (n g:Nat):FnOk Tryz.prog T0.Γ g (T0.Γ.ent g).sg (call T0.Γ n g):=call_all mixed T0.tyOk_ T0.eqsOk_ T0.entsOk_ rfl n g
theorem glob0 (θ:Nat→Value) (S:Nat→Prop) (w:World):GlobOk T0.Γ θ S w:=⟨trivial,fun g p h=>by cases h⟩
theorem of256 {p:Nat→Bool} (h:(List.range 256).all p=true) (c:UInt8):p c.toNat=true:=List.all_eq_true.1 h c.toNat (List.mem_range.2 c.toNat_lt)
theorem percent_m (c:UInt8):T0.mi_percent 1 (c.toNat:Int)=some ([37,hexU (c.toNat / 16),hexU (c.toNat % 16)],()) :=
 of_decide_eq_true (of256 (p:=fun n=>decide (T0.mi_percent 1 (n:Int)=some ([37,hexU (n / 16),hexU (n % 16)],()))) (by kernel_rfl) c)
theorem hex_m (c:UInt8):T0.mi_hex 1 (c.toNat:Int)=some (hexM c,()) :=
 (of_decide_eq_true (of256 (p:=fun n=>decide (T0.mi_hex 1 (n:Int)=some (hexM (UInt8.ofNat n),()))) (by kernel_rfl) c)).trans (by rw[UInt8.ofNat_toNat])
theorem percent_ok (c:UInt8) (w:World):Calls Tryz.prog 237 #[.int .u8 (c.toNat:Int)] w fun e w'=>e=.returned (.string (mkB [37,hexU (c.toNat / 16),hexU (c.toNat % 16)]))∧Below w.heap.size w w':=by
 have hk:FnOk Tryz.prog T0.Γ 237 ⟨[(.int .u8,0)],[(.str,1)]⟩ (call T0.Γ 2 237):=all0 2 237
 refine (calls_flat hk (entersOf Tryz.func237 (by kernel_rfl) rfl) (x:=((c.toNat:Int),())) ((T0.ei_percent 1 (c.toNat:Int)).trans (percent_m c)) rfl rfl (θ:=fun _=>.nilFunc) (ι:=fun _=>.nilFunc) (S:=fun _=>False)
  (fun _=>rfl) (fun _=>rfl) (fun _ h=>h.elim) (glob0 _ _ _) (.cons rfl .nil) (Nat.zero_le _)).mono ?_
 rintro e w' ⟨V,ι',S',rfl,hB,rfl⟩
 exact ⟨rfl,hB⟩
theorem hex_ok (c:UInt8) (w:World):Calls Tryz.prog 242 #[.int .u8 (c.toNat:Int)] w fun e w'=>e=.returned (.int .i64 (hexM c))∧Below w.heap.size w w':=by
 have hk:FnOk Tryz.prog T0.Γ 242 ⟨[(.int .u8,0)],[(.int .i64,1)]⟩ (call T0.Γ 2 242):=all0 2 242
 refine (calls_flat hk (entersOf Tryz.func242 (by kernel_rfl) rfl) (x:=((c.toNat:Int),())) ((T0.ei_hex 1 (c.toNat:Int)).trans (hex_m c)) rfl rfl (θ:=fun _=>.nilFunc) (ι:=fun _=>.nilFunc) (S:=fun _=>False)
  (fun _=>rfl) (fun _=>rfl) (fun _ h=>h.elim) (glob0 _ _ _) (.cons rfl .nil) (Nat.zero_le _)).mono ?_
 rintro e w' ⟨V,ι',S',rfl,hB,rfl⟩
 exact ⟨rfl,hB⟩
theorem in_m (a b c:Int):T0.mi_in 1 a b c=some (decide (b≤a∧a≤c),()):=by
 unfold T0.mi_in
 by_cases h:b≤a <;> simp[h]
theorem in_ok (a b c:Int) (w:World):Calls Tryz.prog 52 #[.int .i64 a,.int .i64 b,.int .i64 c] w fun e w'=>e=.returned (.bool (decide (b≤a∧a≤c)))∧Below w.heap.size w w':=by
 have hk:FnOk Tryz.prog T0.Γ 52 ⟨[(.int .i64,0),(.int .i64,0),(.int .i64,0)],[(.bool,1)]⟩ (call T0.Γ 2 52):=all0 2 52
 refine (calls_flat hk (entersOf Tryz.func52 (by kernel_rfl) rfl) (x:=(a,b,c,())) ((T0.ei_in 1 a b c).trans (in_m a b c)) rfl rfl (θ:=fun _=>.nilFunc) (ι:=fun _=>.nilFunc) (S:=fun _=>False)
  (fun _=>rfl) (fun _=>rfl) (fun _ h=>h.elim) (glob0 _ _ _) (.cons rfl (.cons rfl (.cons rfl .nil))) (Nat.zero_le _)).mono ?_
 rintro e w' ⟨V,ι',S',rfl,hB,rfl⟩
 exact ⟨rfl,hB⟩
def IsBu (B b:Nat) (l:Bs) (w:World):Prop:=Lib.IsBuilderF 146 5 B b (Lib.byteCells l) w
theorem IsBu.fresh {B b:Nat} {w:World} (h:w.heap[b]? = some (.cells #[.pointer none,.slice none 0 0] 146 (0,0))) (hB:B≤b):IsBu B b [] w :=
 .inl ⟨hB,_,h,⟨by simp[Lib.byteCells],.inl ⟨rfl,rfl⟩⟩,by intro h;cases h⟩
theorem IsBu.lt {B b:Nat} {l:Bs} {w:World} (h:IsBu B b l w):b<w.heap.size:=h.elim (fun x=>x.lt) (fun x=>x.lt)
theorem IsBu.below {B b:Nat} {l:Bs} {w w':World} (h:IsBu B b l w) (hb:Below w.heap.size w w'):IsBu B b l w':=by
 have same:∀ {k o},w.heap[k]? = some o→w'.heap[k]? = some o:=fun {k o} hk=>(hb.block k (by
  rcases Nat.lt_or_ge k w.heap.size with h | h
  ·exact h
  ·rw[Array.getElem?_eq_none h] at hk;cases hk)).trans hk
 have at_:∀ {p bs},Lib.BuilderAtF 146 5 B b p bs w→Lib.BuilderAtF 146 5 B b p bs w':=by
  rintro p bs ⟨h1,v,h2,h3,h4⟩
  refine ⟨h1,v,same h2,⟨h3.1,?_⟩,h4⟩
  rcases h3.2 with h5 | ⟨g,cap,cur,fz,e1,e2,e3,e4⟩
  ·exact .inl h5
  ·exact .inr ⟨g,cap,cur,fz,e1,e2,same e3,e4⟩
 exact h.elim (fun x=>.inl (at_ x)) (fun x=>.inr (at_ x))
theorem writeS (B b:Nat) (l s:Bs) (w:World) (h:IsBu B b l w) (hB:B≤w.heap.size) (hl:l.length+s.length≤140737488355328) :
  Calls Tryz.prog 164 #[.pointer (some ⟨b,0,none⟩),.string (mkB s)] w fun e w'=>e=.returned (.tuple #[.int .i64 s.length,.nilIface])∧IsBu B b (l++s) w'∧Below B w w':=by
 refine (Tryz.Builder_WriteString_kB B b _ (mkB s) w h (by rw[Lib.byteCells_length];exact hl) hB).mono ?_
 rintro e w' ⟨rfl,h1,h2,h3⟩
 refine ⟨rfl,.inr ?_,h2⟩
 rw[Lib.strCells_eq,←Lib.byteCells_append] at h1
 exact h1
theorem writeB (B b:Nat) (l:Bs) (c:UInt8) (n:Int) (w:World) (h:IsBu B b l w) (hB:B≤w.heap.size) (hl:l.length+1≤140737488355328) (hn:n=(c.toNat:Int)) :
  Calls Tryz.prog 238 #[.pointer (some ⟨b,0,none⟩),.int .u8 n] w fun e w'=>e=.returned .nilIface∧IsBu B b (l++[c]) w'∧Below B w w':=by
 subst hn
 refine (Tryz.Builder_WriteByte_kB B b _ _ w h (by rw[Lib.byteCells_length];exact hl) hB).mono ?_
 rintro e w' ⟨rfl,h1,h2,h3⟩
 refine ⟨rfl,.inr ?_,h2⟩
 rw[Lib.byteCells_append]
 exact h1
theorem theStr (B b:Nat) (l:Bs) (w:World) (h:IsBu B b l w) (hB:B≤w.heap.size) :
  Calls Tryz.prog 165 #[.pointer (some ⟨b,0,none⟩)] w fun e w'=>e=.returned (.string (mkB l))∧Below B w w':=by
 refine (Tryz.Builder_String_any_k B b l w h hB).mono ?_
 rintro e w' ⟨rfl,h1,h2,h3⟩
 exact ⟨rfl,h2⟩
theorem path_take (xs:List Bs) (i:Nat) (x:Bs) (h:xs[i]? = some x):pathM (xs.take (i+1))=pathM (xs.take i)++(47 :: x):=by
 have app:∀l m:List Bs,pathM (l++m)=pathM l++pathM m:=fun l m=>by
  induction l with
  | nil=>rfl
  | cons s l ih=>simp[pathM,ih]
 obtain ⟨hi,rfl⟩:=List.getElem?_eq_some_iff.1 h
 rw[List.take_succ_eq_append_getElem hi,app]
 simp[pathM]
theorem path_le (xs:List Bs) (i:Nat):(pathM (xs.take i)).length≤(pathM xs).length:=by
 have app:∀l m:List Bs,pathM (l++m)=pathM l++pathM m:=fun l m=>by
  induction l with
  | nil=>rfl
  | cons s l ih=>simp[pathM,ih]
 conv=>rhs;rw[←List.take_append_drop i xs]
 rw[app,List.length_append]
 omega
theorem path_len:∀xs:List Bs,xs.length≤(pathM xs).length
 | []=>Nat.le_refl _
 | s :: l=>by have:=path_len l;simp[pathM];omega
set_option maxRecDepth 100000 in
set_option maxHeartbeats 1000000 in
theorem path_ok (xs:List Bs) (A:Option Addr) (c:Nat) (w:World) (hl:(pathM xs).length≤1073741824) (hc:xs.length≤c)
  (hx:xs=[]∨∃b o,A=some ⟨b,o,none⟩∧b<w.heap.size∧∀(i:Nat) x,(xs.map mkB)[i]? = some x→w.cell? ⟨b,o+i,none⟩=some (.string x)) :
  Calls Tryz.prog 142 #[.slice A xs.length c] w fun e w'=>e=.returned (.string (mkB (pathM xs)))∧Below w.heap.size w w':=by
 have HX:=Hid.mk hx
 have hlen:=path_len xs
 clear hx
 go_enter Tryz.func142,Tryz.ntmps142
 go_wp2
 go_loopg [8] xs.length (fun gf v8 wx=>∃i:Nat,v8=.int .i64 i∧i+gf=xs.length∧IsBu w.heap.size w.heap.size (pathM (xs.take i)) wx∧Below w.heap.size w wx)
 case atStart=>exact ⟨0,rfl,by omega,IsBu.fresh (heap_alloc_new _ _) (Nat.le_refl _),(Below.refl _ _).alloc (Nat.le_refl _) _⟩
 case round =>
  obtain ⟨i,rfl,hi,hbu,hb⟩:=hrel
  by_cases hlt:i<xs.length
  ·obtain ⟨g',rfl⟩:∃g',gk=g'+1:=⟨gk-1,by omega⟩
   obtain ⟨b,o,rfl,hbl,hcell⟩:=HX.out.resolve_left (fun h=>by subst h;simp at hlt)
   obtain ⟨x,hxi⟩:∃x,xs[i]? = some x:=⟨_,List.getElem?_eq_getElem hlt⟩
   have hci:wr.cell? ⟨b,o+i,none⟩=some (.string (mkB x)):=by
    rw[hb.cell (p:=⟨b,o+i,none⟩) hbl]
    exact hcell i _ (by rw[List.getElem?_map,hxi];rfl)
   have hpt:=path_take xs i x hxi
   have hple:=path_le xs (i+1)
   have hplen:(pathM (xs.take (i+1))).length=(pathM (xs.take i)).length+(x.length+1):=by rw[hpt];simp
   go_wp2_with (go_at_call 164;refine (writeS _ _ _ (47 :: x) _ hbu hb.size (by simp;omega)).mono ?_;rintro e w1 ⟨rfl,hbu1,hb1⟩)
   go_roundg g'
   case measure=>omega
   case rel=>exact ⟨i+1,by simp,by omega,by rw[hpt];exact hbu1,hb.trans hb1⟩
  ·obtain rfl:i=xs.length:=by omega
   rw[List.take_length] at hbu
   go_wp2_with (go_at_call 165;refine (theStr _ _ _ _ hbu hb.size).mono ?_;rintro e w1 ⟨rfl,hb1⟩)
   go_ret
   exact ⟨rfl,hb.trans hb1⟩
theorem enc_take (any l:Bs) (i:Nat) (c:UInt8) (h:l[i]? = some c):encM any (l.take (i+1))=encM any (l.take i)++encB any c:=by
 obtain ⟨hi,rfl⟩:=List.getElem?_eq_some_iff.1 h
 rw[List.take_succ_eq_append_getElem hi]
 unfold encM
 rw[List.flatMap_append]
 simp
theorem encB_len (any:Bs) (c:UInt8):(encB any c).length≤3:=by unfold encB;split <;> simp
theorem encM_len (any:Bs):∀l:Bs,(encM any l).length≤3*l.length
 | []=>by simp[encM]
 | c :: l=>by
  have:=encM_len any l
  have:=encB_len any c
  simp only[encM,List.flatMap_cons,List.length_append,List.length_cons] at *
  omega
theorem index_ge:∀(any:Bs) (c:UInt8),decide (0≤Lib.indexByte any c)=any.contains c
 | [],c=>rfl
 | b :: l,c=>by
  have ih:=index_ge l c
  have hg:=Lib.indexByte_ge l c
  rw[List.contains_cons,←ih]
  show decide (0≤(if b==c then 0 else if Lib.indexByte l c == -1 then -1 else Lib.indexByte l c+1))=_
  by_cases h:b=c
  ·subst h;simp
  ·have h1:(b==c)=false:=by simpa using h
   have h2:(c==b)=false:=by simpa using Ne.symm h
   rw[h1,h2,Bool.false_or,if_neg (by simp)]
   by_cases h3:Lib.indexByte l c = -1
   ·rw[h3];rfl
   ·have h4:(Lib.indexByte l c == -1)=false:=by simpa using h3
    rw[h4,if_neg (by simp)]
    exact decide_eq_decide.2 ⟨fun _=>by omega,fun _=>by omega⟩
set_option maxRecDepth 100000 in
set_option maxHeartbeats 1000000 in
theorem enc_ok (k:Int) (t:Bs) (w:World) (hl:t.length≤1073741824) (any:Bs) (hA:any=if 1≤k∧k≤5 then setsL.getD k.toNat [] else [])
  (hs:∃b o c,w.cell? ⟨1,0,none⟩=some (.slice (some ⟨b,o,none⟩) 6 c)∧1<w.heap.size∧b<w.heap.size∧∀(i:Nat) x,(setsL.map mkB)[i]? = some x→w.cell? ⟨b,o+i,none⟩=some (.string x)) :
  Calls Tryz.prog 200 #[.int .i64 k,.string (mkB t)] w fun e w'=>e=.returned (.string (mkB (encM any t)))∧Below w.heap.size w w':=by
 obtain ⟨sb,so,sc,h1,h2,h3,h4⟩:=hs
 have key:∀(b:Bool),decide (1≤k∧k≤5)=b→Calls Tryz.prog 200 #[.int .i64 k,.string (mkB t)] w fun e w'=>e=.returned (.string (mkB (encM any t)))∧Below w.heap.size w w':=by
  intro b hb
  cases b with
  | true =>
   have hk:1≤k∧k≤5:=of_decide_eq_true hb
   rw[if_pos hk] at hA
   obtain ⟨j,rfl⟩:∃j:Nat,k=j:=⟨k.toNat,by omega⟩
   have hj:j<setsL.length:=by show j<6;omega
   have hjc:=h4 j (mkB any) (by rw[List.getElem?_map,List.getElem?_eq_getElem hj,hA,List.getD_eq_getElem?_getD,Int.toNat_natCast,List.getElem?_eq_getElem hj];rfl)
   have hin:=in_ok j 1 5
   rw[hb] at hin
   have hj6:j<6:=hj
   clear hA
   go_enter Tryz.func200,Tryz.ntmps200
   go_wp2_with (go_at_call 52;refine (hin _).mono ?_;rintro e w1 ⟨rfl,hb1⟩;have g1:=(hb1.cell (p:=⟨1,0,none⟩) h2).trans h1;have g2:=(hb1.cell (p:=⟨sb,so+j,none⟩) h3).trans hjc)
   go_loopg [17] t.length (fun gf v17 wx=>∃i:Nat,v17=.int .i64 i∧i+gf=t.length∧IsBu w1.heap.size w1.heap.size (encM any (t.take i)) wx∧Below w1.heap.size w1 wx)
   case atStart=>exact ⟨0,rfl,by omega,IsBu.fresh (heap_alloc_new _ _) (Nat.le_refl _),(Below.refl _ _).alloc (Nat.le_refl _) _⟩
   case round =>
    obtain ⟨i,rfl,hi,hbu,hb⟩:=hrel
    by_cases hlt:i<t.length
    ·obtain ⟨g',rfl⟩:∃g',gk=g'+1:=⟨gk-1,by omega⟩
     have hlt':i<(mkB t).size:=hlt
     have hci:t[i]? = some ((mkB t)[i]'hlt'):=List.getElem?_eq_getElem hlt
     have het:=enc_take any t i _ hci
     have hel:=encM_len any (t.take (i+1))
     rw[het,List.length_append,List.length_take] at hel
     have hyes:((mkB t)[i]'hlt').toNat<32∨126<((mkB t)[i]'hlt').toNat∨any.contains ((mkB t)[i]'hlt')=true→encB any ((mkB t)[i]'hlt')=[37,hexU (((mkB t)[i]'hlt').toNat / 16),hexU (((mkB t)[i]'hlt').toNat % 16)]:=fun h=>if_pos h
     have hno:¬(((mkB t)[i]'hlt').toNat<32∨126<((mkB t)[i]'hlt').toNat∨any.contains ((mkB t)[i]'hlt')=true)→encB any ((mkB t)[i]'hlt')=[(mkB t)[i]'hlt']:=fun h=>if_neg h
     have hix:=index_ge any ((mkB t)[i]'hlt')
     by_cases c1:((mkB t)[i]'hlt').toNat<32
     ·have c1b:decide ((((mkB t)[i]'hlt').toNat:Int)<32)=true:=decide_eq_true bo%
      have he:=hyes (.inl c1)
      rw[he] at het hel
      clear hyes hno hix
      go_wp2_with (first | (go_at_call 237;refine (percent_ok _ _).mono ?_;rintro e w2 ⟨rfl,hb2⟩) | (go_at_call 164;refine (writeS _ _ _ _ _ (hbu.below hb2) (Nat.le_trans hb.size hb2.size) ?hx).mono ?_;(case hx=>simp;omega);rintro e w3 ⟨rfl,hbu3,hb3⟩))
      go_roundg g'
      case measure=>omega
      case rel=>exact ⟨i+1,by simp,by omega,by rw[het];exact hbu3,(hb.trans (hb2.mono hb.size)).trans hb3⟩
     ·have c1b:decide ((((mkB t)[i]'hlt').toNat:Int)<32)=false:=decide_eq_false bo%
      by_cases c2:126<((mkB t)[i]'hlt').toNat
      ·have c2b:decide ((((mkB t)[i]'hlt').toNat:Int) > 126)=true:=decide_eq_true bo%
       have he:=hyes (.inr (.inl c2))
       rw[he] at het hel
       clear hyes hno hix
       go_wp2_with (first | (go_at_call 237;refine (percent_ok _ _).mono ?_;rintro e w2 ⟨rfl,hb2⟩) | (go_at_call 164;refine (writeS _ _ _ _ _ (hbu.below hb2) (Nat.le_trans hb.size hb2.size) ?hx).mono ?_;(case hx=>simp;omega);rintro e w3 ⟨rfl,hbu3,hb3⟩))
       go_roundg g'
       case measure=>omega
       case rel=>exact ⟨i+1,by simp,by omega,by rw[het];exact hbu3,(hb.trans (hb2.mono hb.size)).trans hb3⟩
      ·have c2b:decide ((((mkB t)[i]'hlt').toNat:Int) > 126)=false:=decide_eq_false bo%
       by_cases c3:any.contains ((mkB t)[i]'hlt')=true
       ·have he:=hyes (.inr (.inr c3))
        rw[he] at het hel
        rw[c3] at hix
        clear hyes hno
        go_wp2_with (first | (go_at_call 130;refine (Tryz.strings_IndexByte _ _ _).mono ?_;rintro e w4 ⟨rfl,rfl⟩) | (go_at_call 237;refine (percent_ok _ _).mono ?_;rintro e w2 ⟨rfl,hb2⟩) | (go_at_call 164;refine (writeS _ _ _ _ _ (hbu.below hb2) (Nat.le_trans hb.size hb2.size) ?hx).mono ?_;(case hx=>simp;omega);rintro e w3 ⟨rfl,hbu3,hb3⟩))
        go_roundg g'
        case measure=>omega
        case rel=>exact ⟨i+1,by simp,by omega,by rw[het];exact hbu3,(hb.trans (hb2.mono hb.size)).trans hb3⟩
       ·have he:=hno (by rintro (h | h | h) <;> contradiction)
        rw[he] at het hel
        have c3f:any.contains ((mkB t)[i]'hlt')=false:=by simpa using c3
        rw[c3f] at hix
        clear hyes hno
        go_wp2_with (first | (go_at_call 130;refine (Tryz.strings_IndexByte _ _ _).mono ?_;rintro e w4 ⟨rfl,rfl⟩) | (go_at_call 238;refine (writeB _ _ _ ((mkB t)[i]'hlt') _ _ hbu hb.size ?hx rfl).mono ?_;(case hx=>simp;omega);rintro e w3 ⟨rfl,hbu3,hb3⟩))
        go_roundg g'
        case measure=>omega
        case rel=>exact ⟨i+1,by simp,by omega,by rw[het];exact hbu3,hb.trans hb3⟩
    ·obtain rfl:i=t.length:=by omega
     rw[List.take_length] at hbu
     go_wp2_with (go_at_call 165;refine (theStr _ _ _ _ hbu hb.size).mono ?_;rintro e w5 ⟨rfl,hb5⟩)
     go_ret
     exact ⟨rfl,hb1.trans ((hb.trans hb5).mono hb1.size)⟩
  | false =>
   have hk:¬(1≤k∧k≤5):=of_decide_eq_false hb
   rw[if_neg hk] at hA
   subst hA
   have hin:=in_ok k 1 5
   rw[hb] at hin
   go_enter Tryz.func200,Tryz.ntmps200
   go_wp2_with (go_at_call 52;refine (hin _).mono ?_;rintro e w1 ⟨rfl,hb1⟩)
   go_loopg [17] t.length (fun gf v17 wx=>∃i:Nat,v17=.int .i64 i∧i+gf=t.length∧IsBu w1.heap.size w1.heap.size (encM [] (t.take i)) wx∧Below w1.heap.size w1 wx)
   case atStart=>exact ⟨0,rfl,by omega,IsBu.fresh (heap_alloc_new _ _) (Nat.le_refl _),(Below.refl _ _).alloc (Nat.le_refl _) _⟩
   case round =>
    obtain ⟨i,rfl,hi,hbu,hb⟩:=hrel
    by_cases hlt:i<t.length
    ·obtain ⟨g',rfl⟩:∃g',gk=g'+1:=⟨gk-1,by omega⟩
     have hlt':i<(mkB t).size:=hlt
     have hci:t[i]? = some ((mkB t)[i]'hlt'):=List.getElem?_eq_getElem hlt
     have het:=enc_take [] t i _ hci
     have hel:=encM_len [] (t.take (i+1))
     rw[het,List.length_append,List.length_take] at hel
     have hyes:((mkB t)[i]'hlt').toNat<32∨126<((mkB t)[i]'hlt').toNat∨([]:Bs).contains ((mkB t)[i]'hlt')=true→encB [] ((mkB t)[i]'hlt')=[37,hexU (((mkB t)[i]'hlt').toNat / 16),hexU (((mkB t)[i]'hlt').toNat % 16)]:=fun h=>if_pos h
     have hno:¬(((mkB t)[i]'hlt').toNat<32∨126<((mkB t)[i]'hlt').toNat∨([]:Bs).contains ((mkB t)[i]'hlt')=true)→encB [] ((mkB t)[i]'hlt')=[(mkB t)[i]'hlt']:=fun h=>if_neg h
     have hix:=index_ge [] ((mkB t)[i]'hlt')
     by_cases c1:((mkB t)[i]'hlt').toNat<32
     ·have c1b:decide ((((mkB t)[i]'hlt').toNat:Int)<32)=true:=decide_eq_true bo%
      have he:=hyes (.inl c1)
      rw[he] at het hel
      clear hyes hno hix
      go_wp2_with (first | (go_at_call 237;refine (percent_ok _ _).mono ?_;rintro e w2 ⟨rfl,hb2⟩) | (go_at_call 164;refine (writeS _ _ _ _ _ (hbu.below hb2) (Nat.le_trans hb.size hb2.size) ?hx).mono ?_;(case hx=>simp;omega);rintro e w3 ⟨rfl,hbu3,hb3⟩))
      go_roundg g'
      case measure=>omega
      case rel=>exact ⟨i+1,by simp,by omega,by rw[het];exact hbu3,(hb.trans (hb2.mono hb.size)).trans hb3⟩
     ·have c1b:decide ((((mkB t)[i]'hlt').toNat:Int)<32)=false:=decide_eq_false bo%
      by_cases c2:126<((mkB t)[i]'hlt').toNat
      ·have c2b:decide ((((mkB t)[i]'hlt').toNat:Int) > 126)=true:=decide_eq_true bo%
       have he:=hyes (.inr (.inl c2))
       rw[he] at het hel
       clear hyes hno hix
       go_wp2_with (first | (go_at_call 237;refine (percent_ok _ _).mono ?_;rintro e w2 ⟨rfl,hb2⟩) | (go_at_call 164;refine (writeS _ _ _ _ _ (hbu.below hb2) (Nat.le_trans hb.size hb2.size) ?hx).mono ?_;(case hx=>simp;omega);rintro e w3 ⟨rfl,hbu3,hb3⟩))
       go_roundg g'
       case measure=>omega
       case rel=>exact ⟨i+1,by simp,by omega,by rw[het];exact hbu3,(hb.trans (hb2.mono hb.size)).trans hb3⟩
      ·have c2b:decide ((((mkB t)[i]'hlt').toNat:Int) > 126)=false:=decide_eq_false bo%
       by_cases c3:([]:Bs).contains ((mkB t)[i]'hlt')=true
       ·exact absurd c3 (by simp)
       ·have he:=hno (by rintro (h | h | h) <;> contradiction)
        rw[he] at het hel
        have hix2:Lib.indexByte [] ((mkB t)[i]'hlt')<0:=(show (-1:Int)<0 by decide)
        clear hyes hno
        go_wp2_with (first | (go_at_call 130;refine (Tryz.strings_IndexByte _ _ _).mono ?_;rintro e w4 ⟨rfl,rfl⟩) | (go_at_call 238;refine (writeB _ _ _ ((mkB t)[i]'hlt') _ _ hbu hb.size ?hx rfl).mono ?_;(case hx=>simp;omega);rintro e w3 ⟨rfl,hbu3,hb3⟩))
        go_roundg g'
        case measure=>omega
        case rel=>exact ⟨i+1,by simp,by omega,by rw[het];exact hbu3,hb.trans hb3⟩
    ·obtain rfl:i=t.length:=by omega
     rw[List.take_length] at hbu
     go_wp2_with (go_at_call 165;refine (theStr _ _ _ _ hbu hb.size).mono ?_;rintro e w5 ⟨rfl,hb5⟩)
     go_ret
     exact ⟨rfl,hb1.trans ((hb.trans hb5).mono hb1.size)⟩
 exact key _ rfl
theorem IsBu.drew {B b:Nat} {l:Bs} {w:World} (h:IsBu B b l w):IsBu B b l w.drew:=h.below (Below.refl _ _).drew
theorem hexM_le (c:UInt8):hexM c≤15:=by
 unfold hexM
 repeat' split
 all_goals omega
theorem hexB_int (a b:UInt8) (ha:0≤hexM a) (hb:0≤hexM b):((hexB a b).toNat:Int)=16*hexM a+hexM b:=by
 have h1:=hexM_le a
 have h2:=hexM_le b
 unfold hexB
 rw[UInt8.toNat_ofNat']
 omega
theorem decM_pct (a b:UInt8) (r:Bs) (ha:0≤hexM a) (hb:0≤hexM b):decM (37 :: a :: b :: r)=hexB a b :: decM r:=by
 rw[decM];simp[ha,hb]
theorem decM_one (c:UInt8) (l:Bs) (h:¬(c=37∧∃a b r,l=a :: b :: r∧0≤hexM a∧0≤hexM b)):decM (c :: l)=c :: decM l:=by
 by_cases hc:c=37
 ·subst hc
  match l,h with
  | [],_=>rfl
  | [a],_=>rfl
  | a :: b :: r,h =>
   rw[decM,if_neg]
   rintro ⟨h1,h2⟩
   exact h ⟨rfl,a,b,r,rfl,h1,h2⟩
 ·rw[decM]
  intro a b h1 h2
  exact absurd h2 hc
theorem dec_len (l:Bs):(decM l).length≤l.length:=by
 have key:∀n (l:Bs),l.length≤n→(decM l).length≤l.length:=by
  intro n
  induction n with
  | zero=>intro l hl;cases l with
   | nil=>simp[decM]
   | cons c l=>simp at hl
  | succ n ih =>
   intro l hl
   cases l with
   | nil=>simp[decM]
   | cons c l =>
    by_cases h:c=37∧∃a b r,l=a :: b :: r∧0≤hexM a∧0≤hexM b
    ·obtain ⟨rfl,a,b,r,rfl,h1,h2⟩:=h
     rw[decM_pct a b r h1 h2]
     have:=ih r (by simp at hl;omega)
     simp
     omega
    ·rw[decM_one c l h]
     have:=ih l (by simpa using hl)
     simpa using this
 exact key _ l (Nat.le_refl _)
theorem drop_at (t:Bs) (i:Nat) (c:UInt8) (h:t[i]? = some c):t.drop i=c :: t.drop (i+1):=by
 obtain ⟨hi,rfl⟩:=List.getElem?_eq_some_iff.1 h
 exact List.drop_eq_getElem_cons hi
theorem dec_pct (t:Bs) (i:Nat) (a b c:UInt8) (h0:t[i]? = some c) (h1:t[i+1]? = some a) (h2:t[i+2]? = some b) (hc:c=37) (ha:0≤hexM a) (hb:0≤hexM b):decM (t.drop i)=hexB a b :: decM (t.drop (i+3)):=by
 subst hc
 rw[drop_at t i _ h0,drop_at t (i+1) _ h1,drop_at t (i+2) _ h2,decM_pct a b _ ha hb]
theorem dec_one (t:Bs) (i:Nat) (c:UInt8) (h0:t[i]? = some c) (h:¬(c=37∧i+2<t.length∧0≤hexM (t.getD (i+1) 0)∧0≤hexM (t.getD (i+2) 0))):decM (t.drop i)=c :: decM (t.drop (i+1)):=by
 rw[drop_at t i _ h0]
 refine decM_one _ _ ?_
 rintro ⟨rfl,a,b,r,hr,ha,hb⟩
 have e1:t[i+1]? = some a:=by
  have:=congrArg (fun l:Bs=>l[0]?) hr
  simpa using this
 have e2:t[i+2]? = some b:=by
  have:=congrArg (fun l:Bs=>l[1]?) hr
  simpa using this
 refine h ⟨rfl,(List.getElem?_eq_some_iff.1 e2).1,?_,?_⟩
 ·rw[List.getD_eq_getElem?_getD,e1];exact ha
 ·rw[List.getD_eq_getElem?_getD,e2];exact hb
set_option maxRecDepth 100000 in
set_option maxHeartbeats 1000000 in
theorem dec_ok (t:Bs) (w:World) :
  Calls Tryz.prog 239 #[.string (mkB t)] w fun e w'=>e=.returned (.string (mkB (if t.length≤600 then decM t else [])))∧Below w.heap.size w w':=by
 by_cases hl:t.length≤600
 ·rw[if_pos hl]
  have hlz:decide ((t.length:Int) > 600)=false:=decide_eq_false bo%
  go_enter Tryz.func239,Tryz.ntmps239
  go_wp2
  go_loopg [4] t.length (fun gf v4 wx=>∃i:Nat,v4=.int .i64 i∧i≤t.length∧t.length≤i+gf∧Below w.heap.size w wx∧∃acc,IsBu w.heap.size w.heap.size acc wx∧acc++decM (t.drop i)=decM t)
  case atStart=>exact ⟨0,rfl,by omega,by omega,(Below.refl _ _).alloc (Nat.le_refl _) _,[],IsBu.fresh (heap_alloc_new _ _) (Nat.le_refl _),rfl⟩
  case round =>
   obtain ⟨i,rfl,hi,hgf,hb,acc,hbu,hacc⟩:=hrel
   have hsz:acc.length≤600:=by
    have:=congrArg List.length hacc
    rw[List.length_append] at this
    have:=dec_len t
    omega
   by_cases hlt:i<t.length
   ·obtain ⟨g',rfl⟩:∃g',gk=g'+1:=⟨gk-1,by omega⟩
    have hlt':i<(mkB t).size:=hlt
    have hci:t[i]? = some ((mkB t)[i]'hlt'):=List.getElem?_eq_getElem hlt
    by_cases c1:((mkB t)[i]'hlt').toNat=37
    ·have c1b:((((mkB t)[i]'hlt').toNat:Int)==37)=true:=by rw[c1];rfl
     by_cases c2:i+2<t.length
     ·have c2b:decide ((i:Int)+2<(t.length:Int))=true:=decide_eq_true bo%
      have p1:(0:Int)≤(i:Int)+1:=by omega
      have p2:(i:Int)+1<(t.length:Int):=by omega
      have p3:(0:Int)≤(i:Int)+2:=by omega
      have p4:(i:Int)+2<(t.length:Int):=by omega
      have hlt1:i+1<(mkB t).size:=(by omega:i+1<t.length)
      have hlt2:i+2<(mkB t).size:=c2
      have hc1:t[i+1]? = some ((mkB t)[i+1]'hlt1):=List.getElem?_eq_getElem bo%
      have hc2:t[i+2]? = some ((mkB t)[i+2]'hlt2):=List.getElem?_eq_getElem bo%
      by_cases c3:0≤hexM ((mkB t)[i+1]'hlt1)
      ·have c3b:decide (hexM ((mkB t)[i+1]'hlt1)≥0)=true:=decide_eq_true c3
       by_cases c4:0≤hexM ((mkB t)[i+2]'hlt2)
       ·have c4b:decide (hexM ((mkB t)[i+2]'hlt2)≥0)=true:=decide_eq_true c4
        go_wp2_with (go_at_call 242;refine (hex_ok _ _).mono ?_;rintro e w2 ⟨rfl,hb2⟩;replace hb:=hb.trans (hb2.mono hb.size);replace hbu:=hbu.below hb2;clear hb2)
        have v1:IntKind.i64.wrap ((i:Int)+1)=(i:Int)+1:=w64 bo% bo%
        have v2:IntKind.i64.wrap ((i:Int)+2)=(i:Int)+2:=w64 bo% bo%
        have u1:=hexM_le ((mkB t)[i+1]'hlt1)
        have u2:=hexM_le ((mkB t)[i+2]'hlt2)
        have hbi:=hexB_int ((mkB t)[i+1]'hlt1) ((mkB t)[i+2]'hlt2) c3 c4
        have v3:IntKind.i64.wrap (16*hexM ((mkB t)[i+1]'hlt1))=16*hexM ((mkB t)[i+1]'hlt1):=w64 bo% bo%
        have v4:IntKind.i64.wrap (16*hexM ((mkB t)[i+1]'hlt1)+hexM ((mkB t)[i+2]'hlt2))=16*hexM ((mkB t)[i+1]'hlt1)+hexM ((mkB t)[i+2]'hlt2):=w64 bo% bo%
        have v5:IntKind.u8.wrap (16*hexM ((mkB t)[i+1]'hlt1)+hexM ((mkB t)[i+2]'hlt2))=16*hexM ((mkB t)[i+1]'hlt1)+hexM ((mkB t)[i+2]'hlt2):=w8 bo% bo%
        have hd:=dec_pct t i _ _ _ hci hc1 hc2 (UInt8.toNat_inj.1 c1) c3 c4
        clear hci hc1 hc2
        go_region_held3 (fun _=>True) (trivial) (first
         | (go_at_call 242;refine (hex_ok _ _).mono ?_;rintro e w2 ⟨rfl,hb2⟩;replace hb:=hb.drew.trans (hb2.mono hb.size);replace hbu:=hbu.drew.below hb2;clear hb2)
         | (go_at_call 242;refine (hex_ok _ _).mono ?_;rintro e w2 ⟨rfl,hb2⟩;replace hb:=hb.trans (hb2.mono hb.size);replace hbu:=hbu.below hb2;clear hb2)
         | (go_at_call 238;refine (writeB _ _ _ (hexB ((mkB t)[i+1]'hlt1) ((mkB t)[i+2]'hlt2)) _ _ hbu hb.size ?hx ?hn).mono ?_;(case hx=>omega);(case hn=>simp only[show ((i:Int)+1).toNat=i+1 by omega,show ((i:Int)+2).toNat=i+2 by omega,v3,v4,v5];exact hbi.symm);rintro e w3 ⟨rfl,hbu3,hb3⟩))
        all_goals
         go_wp2
         go_roundg g'
         case measure=>omega
         case rel=>exact ⟨i+3,by first | rfl | simp | (simp;omega),by omega,by omega,hb.trans hb3,_,hbu3,by rw[←hacc,hd];simp⟩
       ·have c4b:decide (hexM ((mkB t)[i+2]'hlt2)≥0)=false:=decide_eq_false c4
        have hd:=dec_one t i _ hci (fun h=>c4 (by have:=h.2.2.2;rwa [List.getD_eq_getElem?_getD,hc2] at this))
        clear hci
        go_wp2_with (first | (go_at_call 242;refine (hex_ok _ _).mono ?_;rintro e w2 ⟨rfl,hb2⟩;replace hb:=hb.trans (hb2.mono hb.size);replace hbu:=hbu.below hb2;clear hb2) | (go_at_call 238;refine (writeB _ _ _ ((mkB t)[i]'hlt') _ _ hbu hb.size ?hx (by rw[c1];rfl)).mono ?_;(case hx=>omega);rintro e w3 ⟨rfl,hbu3,hb3⟩))
        go_roundg g'
        case measure=>omega
        case rel=>exact ⟨i+1,by simp,by omega,by omega,hb.trans hb3,_,hbu3,by rw[←hacc,hd];simp⟩
      ·have c3b:decide (hexM ((mkB t)[i+1]'hlt1)≥0)=false:=decide_eq_false c3
       have hd:=dec_one t i _ hci (fun h=>c3 (by have:=h.2.2.1;rwa [List.getD_eq_getElem?_getD,hc1] at this))
       clear hci
       go_wp2_with (first | (go_at_call 242;refine (hex_ok _ _).mono ?_;rintro e w2 ⟨rfl,hb2⟩;replace hb:=hb.trans (hb2.mono hb.size);replace hbu:=hbu.below hb2;clear hb2) | (go_at_call 238;refine (writeB _ _ _ ((mkB t)[i]'hlt') _ _ hbu hb.size ?hx (by rw[c1];rfl)).mono ?_;(case hx=>omega);rintro e w3 ⟨rfl,hbu3,hb3⟩))
       go_roundg g'
       case measure=>omega
       case rel=>exact ⟨i+1,by simp,by omega,by omega,hb.trans hb3,_,hbu3,by rw[←hacc,hd];simp⟩
     ·have c2b:decide ((i:Int)+2<(t.length:Int))=false:=decide_eq_false bo%
      have hd:=dec_one t i _ hci (fun h=>c2 h.2.1)
      clear hci
      go_wp2_with (first | (go_at_call 242;refine (hex_ok _ _).mono ?_;rintro e w2 ⟨rfl,hb2⟩;replace hb:=hb.trans (hb2.mono hb.size);replace hbu:=hbu.below hb2;clear hb2) | (go_at_call 238;refine (writeB _ _ _ ((mkB t)[i]'hlt') _ _ hbu hb.size ?hx (by rw[c1];rfl)).mono ?_;(case hx=>omega);rintro e w3 ⟨rfl,hbu3,hb3⟩))
      go_roundg g'
      case measure=>omega
      case rel=>exact ⟨i+1,by simp,by omega,by omega,hb.trans hb3,_,hbu3,by rw[←hacc,hd];simp⟩
    ·have c1b:((((mkB t)[i]'hlt').toNat:Int)==37)=false:=by
      rw[beq_eq_false_iff_ne];omega
     have hd:=dec_one t i _ hci (fun h=>c1 (by rw[h.1];rfl))
     clear hci
     go_wp2_with (first | (go_at_call 242;refine (hex_ok _ _).mono ?_;rintro e w2 ⟨rfl,hb2⟩;replace hb:=hb.trans (hb2.mono hb.size);replace hbu:=hbu.below hb2;clear hb2) | (go_at_call 238;refine (writeB _ _ _ ((mkB t)[i]'hlt') _ _ hbu hb.size ?hx rfl).mono ?_;(case hx=>omega);rintro e w3 ⟨rfl,hbu3,hb3⟩))
     go_roundg g'
     case measure=>omega
     case rel=>exact ⟨i+1,by simp,by omega,by omega,hb.trans hb3,_,hbu3,by rw[←hacc,hd];simp⟩
   ·obtain rfl:i=t.length:=by omega
    rw[List.drop_length] at hacc
    have hac2:acc=decM t:=by rw[←hacc];simp[decM]
    subst hac2
    go_wp2_with (go_at_call 165;refine (theStr _ _ _ _ hbu hb.size).mono ?_;rintro e w5 ⟨rfl,hb5⟩)
    go_ret
    exact ⟨rfl,hb.trans hb5⟩
 ·rw[if_neg hl]
  have hlz:decide ((t.length:Int) > 600)=true:=decide_eq_true bo%
  go_enter Tryz.func239,Tryz.ntmps239
  go_wp2
  go_ret
  exact ⟨rfl,Below.refl _ _⟩
end Go.Proofs.YtpfnljkjjnnliaaGreatDoorQ
namespace Go.Proofs.YtpfnljkjjnnliaaGreatDoorQ
open Go.VM Go.RowKit
variable {Γ:Ctx}
theorem ext_PathPut:FnOk Tryz.prog Γ 142 ⟨[(.lst .str,0)],[(.str,1)]⟩ x_impl_PathPut:=by
 refine fnok_flat (fun _=>rfl) (fun _ _=>rfl) (fun _=>rfl) (entersOf Tryz.func142 (by kernel_rfl) rfl) ?_
 rintro ⟨xs,⟨⟩⟩ ⟨r,⟨⟩⟩ hF θ S w ι Vs hGl hS hA
 have key:∀(xs:List Bs) (r:Bs),x_impl_PathPut (xs,())=some (r,())→∀V,RepC θ S w (.lst .str) xs [V] →
   Calls Tryz.prog 142 #[V] w fun e w'=>e=.returned (.string (mkB r))∧Below w.heap.size w w':=by
  intro xs r hF V hV
  simp only[x_impl_PathPut] at hF
  split at hF
  case isFalse=>cases hF
  case isTrue hl =>
   obtain rfl:pathM xs=r:=by injection hF with e;injection e
   obtain ⟨p,cap,rfl,hcap,hx⟩:=rep_strs hV
   exact path_ok xs p cap w hl hcap (hx.imp id fun ⟨b,o,h1,h2,h3⟩=>⟨b,o,h1,hS b h2,h3⟩)
 obtain ⟨x,rfl,hx⟩:=all2_one hA
 refine (key xs r hF x hx).mono ?_
 rintro e w' ⟨rfl,hB⟩
 exact ⟨_,rfl,hB,fun _ _ _=>rfl⟩
theorem ext_Decode:FnOk Tryz.prog Γ 239 ⟨[(.str,0)],[(.str,1)]⟩ x_impl_Decode:=by
 refine fnok_flat (fun _=>rfl) (fun _ _=>rfl) (fun _=>rfl) (entersOf Tryz.func239 (by kernel_rfl) rfl) ?_
 rintro ⟨t,⟨⟩⟩ ⟨r,⟨⟩⟩ hF θ S w ι Vs hGl hS hA
 obtain ⟨x,rfl,rfl⟩:=all2_one hA
 refine (dec_ok t w).mono ?_
 rintro e w' ⟨rfl,hB⟩
 refine ⟨_,rfl,hB,fun _ _ _=>?_⟩
 have key:∀t r:Bs,x_impl_Decode (t,())=some (r,())→(if t.length≤600 then decM t else [])=r:=fun t r h=>by
  simp only[x_impl_Decode] at h
  split <;> rename_i hl
  ·rw[if_pos hl] at h;injection h with e;injection e
  ·rw[if_neg hl] at h;injection h with e;injection e
 exact congrArg (fun l=>Value.string (mkB l)) (key t r hF)
theorem ext_encode (hg:Go.VM.look Γ.globs 1=some ⟨.lst .str,setsL⟩):FnOk Tryz.prog Γ 200 ⟨[(.int .i64,0),(.str,0)],[(.str,1)]⟩ x_impl_encode:=by
 refine fnok_flat (fun _=>rfl) (fun _ _=>rfl) (fun _=>rfl) (entersOf Tryz.func200 (by kernel_rfl) rfl) ?_
 rintro ⟨k,t,⟨⟩⟩ ⟨r,⟨⟩⟩ hF θ S w ι Vs hGl hS hA
 obtain ⟨_,hS1,ws,hR,hC⟩:=hGl.2 _ _ hg
 obtain ⟨V,rfl⟩:∃V,ws=[V]:=by
  have:=hR.len
  match ws,this with
  | [V],_=>exact ⟨V,rfl⟩
 obtain ⟨p,cap,rfl,hcap,hx⟩:=rep_strs hR
 obtain ⟨b,o,rfl,hb,hc⟩:=hx.resolve_left (by decide)
 have key:∀(k:Int) (t r:Bs),x_impl_encode (k,t,())=some (r,())→Calls Tryz.prog 200 #[.int .i64 k,.string (mkB t)] w fun e w'=>e=.returned (.string (mkB r))∧Below w.heap.size w w':=by
  intro k t r hF
  simp only[x_impl_encode] at hF
  split at hF
  case isFalse=>cases hF
  case isTrue hl =>
   obtain rfl:encM (if 1≤k∧k≤5 then setsL.getD k.toNat [] else []) t=r:=by injection hF with e;injection e
   exact enc_ok k t w hl _ rfl ⟨b,o,cap,hC 0 _ rfl,hS _ hS1,hS b hb,hc⟩
 obtain ⟨x,y,rfl,rfl,rfl⟩:=all2_two hA
 refine (key k t r hF).mono ?_
 rintro e w' ⟨rfl,hB⟩
 exact ⟨_,rfl,hB,fun _ _ _=>rfl⟩
end Go.Proofs.YtpfnljkjjnnliaaGreatDoorQ
namespace Go.Proofs.YtpfnljkjjnnliaaGreatDoorQ
open Go.VM Go.RowKit
def btz (s:ByteArray) (i:Int):Int:=if h:i.toNat<s.size then ((s[i.toNat]'h).toNat:Int) else 0
theorem btz_at (s:ByteArray) (i:Int):∀h:i.toNat<s.size,((s[i.toNat]'h).toNat:Int)=btz s i:=fun h=>by simp[btz,h]
theorem ascii_at {s:ByteArray} (ha:s.data.toList.all (fun b=>b.toNat<128)=true) (i:Nat) (h:i<s.size):(s[i]'h).toNat<128:=by
 rw[List.all_eq_true] at ha
 have:=ha (s[i]'h) (List.mem_of_getElem? (i:=i) (by rw[List.getElem?_eq_getElem (by simpa using h)];rfl))
 simpa using this
set_option maxHeartbeats 8000000 in
set_option maxRecDepth 100000 in
theorem rune_high (s:ByteArray) (r:Int) (w:World) (hr:128≤r) (ha:s.data.toList.all (fun b=>b.toNat<128)=true) (hs:s.size≤8) :
  Calls Tryz.prog 217 #[.string s,.int .i32 r] w fun e w'=>e=.returned (.int .i64 (-1))∧Below w.heap.size w w':=by
 have hAt:=ascii_at ha
 clear ha
 have c0:decide ((0:Int)≤r)=true:=decide_eq_true bo%
 have c1:decide (r<128)=false:=decide_eq_false bo%
 by_cases c2:r=65533
 ·subst c2
  go_enter Tryz.func217,Tryz.ntmps217
  go_wp2
  go_loopg [] (s.size+1) (fun gf wx=>∃pos:Nat,wx.heap[w.heap.size]? = some (.stringIter s pos)∧Below w.heap.size w wx∧s.size<pos+gf)
  case atStart=>exact ⟨0,World.iter_heap w s 0,(Below.refl _ w).alloc (Nat.le_refl _) _,by omega⟩
  case round =>
   obtain ⟨pos,hit,hbw,hfu⟩:=hrel
   by_cases hps:pos<s.size
   ·obtain ⟨g',rfl⟩:∃g',gk=g'+1:=⟨gk-1,by omega⟩
    have hlt:=hAt pos hps
    have hnx:∀ty,(Instr.next (.pointer (some ⟨w.heap.size,0,none⟩)) true ty).run Tryz.prog wr=_:=fun ty=>Lib.run_next_ascii_at wr w.heap.size s pos ty hit hps hlt
    have hit2:=Lib.iterAt_heap wr w.heap.size s pos (pos+1) hit
    have hbw2:=Lib.below_iterAt hbw (k:=w.heap.size) (Nat.le_refl _) s (pos+1)
    obtain ⟨W,hWd⟩:∃W,wr.iterAt w.heap.size s (pos+1)=W:=⟨_,rfl⟩
    rw[hWd] at hnx hit2 hbw2
    have c3:(((s[pos]'hps).toNat:Int)==65533)=false:=by simp;omega
    generalize (s[pos]'hps).toNat=v at hnx c3
    go_wp2
    go_roundg g'
    case measure=>omega
    case rel=>exact ⟨pos+1,hit2,hbw2,by omega⟩
   ·have hnx:∀ty,(Instr.next (.pointer (some ⟨w.heap.size,0,none⟩)) true ty).run Tryz.prog wr=_:=fun ty=>Lib.run_next_end_at wr w.heap.size s pos ty hit hps
    go_wp2
    go_ret
    exact ⟨rfl,hbw⟩
 ·have c2b:(r==65533)=false:=beq_eq_false_iff_ne.2 c2
  cases hv:Lib.validRune r
  ·go_enter Tryz.func217,Tryz.ntmps217
   go_wp2_with (go_at_call 250;refine (Tryz.utf8_ValidRune r _).mono ?_;rintro e w4 ⟨rfl,rfl⟩;rw[hv])
   go_ret
   exact ⟨rfl,Below.refl _ _⟩
  ·have hv2:Utf8.valid r=true:=by
    simp only[Lib.validRune,decide_eq_true_eq] at hv
    simp[Utf8.valid];omega
   obtain ⟨e1,e2,e3⟩:=encode_facts r hv2 hr
   have hcv:∀W,(convert 21 9 (.int .i32 r)).run Tryz.prog W=.ok (.string (Utf8.encode r)) W:=fun W=>run_convert_int_string W 21 9 .i32 r (by rw[Tryz.underlying21];rfl) Tryz.underlying9
   generalize hE:Utf8.encode r=E at e1 e2 e3 hcv
   have c4b:decide (0<(s.size:Int))=decide (0<(s.size:Int)):=rfl
   have c5:decide ((0:Int) > (0:Int))=false:=rfl
   by_cases c3:E.size-1<s.size
   ·have c3b:decide ((E.size:Int)-1<(s.size:Int))=true:=decide_eq_true bo%
    obtain ⟨ji,hji⟩:∃j_:Int,(E.size:Int)-1=j_:=⟨_,rfl⟩
    rw[hji] at c3b
    have p1:(0≤ji)=True:=eq_true bo%
    have p2:(ji<(s.size:Int))=True:=eq_true bo%
    have p3:(ji<(E.size:Int))=True:=eq_true bo%
    have q1:ji.toNat=E.size-1:=by omega
    have hl:=e3 bo%
    have hs1:=hAt _ c3
    have b1:btz s ji<128:=by
     unfold btz;rw[q1,dif_pos c3];omega
    have b2:128≤btz E ji:=by
     unfold btz;rw[q1,dif_pos bo%];omega
    have b3:btz E ji<256:=by
     unfold btz;rw[q1,dif_pos bo%];have:=(E[E.size-1]'bo%).toNat_lt;omega
    have c6:(btz s ji != btz E ji)=true:=by simp;omega
    have hib:∀a b,Lib.indexByte (s.extract a b).data.toList (btz E ji).toNat.toUInt8 = -1:=by
     intro a b
     have h1:=Lib.indexByte_ge (s.extract a b).data.toList (btz E ji).toNat.toUInt8
     by_cases h2:Lib.indexByte (s.extract a b).data.toList (btz E ji).toNat.toUInt8 = -1
     ·exact h2
     ·obtain ⟨o,ho⟩:∃o:Nat,Lib.indexByte (s.extract a b).data.toList (btz E ji).toNat.toUInt8=(o:Int):=⟨(Lib.indexByte (s.extract a b).data.toList (btz E ji).toNat.toUInt8).toNat,by omega⟩
      have h3:=(Lib.indexByte_some ho).1
      have h4:(btz E ji).toNat.toUInt8∈s.data.toList:=by
       have:=List.mem_of_getElem? h3
       rw[ByteArray.data_extract] at this
       simp only[Array.toList_extract,List.extract] at this
       exact List.mem_of_mem_drop (List.mem_of_mem_take this)
      obtain ⟨j,hj,hje⟩:=List.getElem_of_mem h4
      have h5:=hAt j (by simpa using hj)
      have h6:(s[j]'(by simpa using hj))=(btz E ji).toNat.toUInt8:=by rw[←hje];rfl
      rw[h6] at h5
      have h7:(btz E ji).toNat.toUInt8.toNat=(btz E ji).toNat:=by simp;omega
      omega
    have hx1:=btz_at s ji
    have hx2:=btz_at E ji
    have p4:(0≤(E.size:Int))=True:=eq_true bo%
    have p5:((E.size:Int)≤(s.size:Int))=True:=eq_true bo%
    clear hl hs1 q1
    obtain ⟨jk,hjk⟩:∃j_:Int,ji+1=j_:=⟨_,rfl⟩
    have hjkw:IntKind.i64.wrap jk=jk:=w64 bo% bo%
    have p6:(0≤jk)=True:=eq_true bo%
    have p7:(jk≤(s.size:Int))=True:=eq_true bo%
    go_enter Tryz.func217,Tryz.ntmps217
    go_wp2_with (go_at_call 250;refine (Tryz.utf8_ValidRune r _).mono ?_;rintro e w4 ⟨rfl,rfl⟩;rw[hv])
    refine wp_scope_straight ?_
    go_wp2
    go_loopg [9,10] 1 (fun gf v9 v10 w'=>v9=.int .i64 ji∧v10=.int .i64 0∧Below w4.heap.size w4 w')
    case atStart=>exact ⟨rfl,rfl,Below.refl _ _⟩
    case round =>
     obtain ⟨rfl,rfl,hb⟩:=hrel
     go_wp2
     refine wp_scope_straight ?_
     go_wp2
     go_quiet (fail)
     go_wp2
     go_quiet (first | (go_at_call 130;refine (Tryz.strings_IndexByte _ _ _).mono ?_;rintro e w1 ⟨rfl,rfl⟩;rw[hib];exact ⟨rfl,_,rfl⟩))
     go_wp2
     simp only[Exit.then,Exit.noGoto,Exit.inBlock]
     go_ret
     exact ⟨rfl,⟨hb.os,hb.tape,hb.output,hb.size,hb.block⟩⟩
   ·have c3b:decide ((E.size:Int)-1<(s.size:Int))=false:=decide_eq_false bo%
    go_enter Tryz.func217,Tryz.ntmps217
    go_wp2_with (go_at_call 250;refine (Tryz.utf8_ValidRune r _).mono ?_;rintro e w4 ⟨rfl,rfl⟩;rw[hv])
    refine wp_scope_straight ?_
    go_wp2
    go_loopg [9,10] 1 (fun gf v9 v10 w'=>v9=.int .i64 ((E.size:Int)-1)∧v10=.int .i64 0∧Below w4.heap.size w4 w')
    case atStart=>exact ⟨rfl,rfl,Below.refl _ _⟩
    case round =>
     obtain ⟨rfl,rfl,hb⟩:=hrel
     go_wp2
     simp only[Exit.noGoto,Exit.inBlock]
     go_ret
     exact ⟨rfl,hb⟩
theorem rune_any (s:ByteArray) (r:Nat) (w:World) (ha:s.data.toList.all (fun b=>b.toNat<128)=true) (hs:s.size≤8) :
  Calls Tryz.prog 217 #[.string s,.int .i32 (r:Int)] w fun e w'=>e=.returned (.int .i64 (if r<128 then Lib.indexByte s.data.toList r.toUInt8 else -1))∧Below w.heap.size w w':=by
 by_cases h:r<128
 ·rw[if_pos h]
  refine (Tryz.strings_IndexRune_ascii s (r:Int) w bo% bo%).mono ?_
  rintro e w' ⟨rfl,rfl⟩
  exact ⟨by simp,Below.refl _ _⟩
 ·rw[if_neg h]
  exact rune_high s r w bo% ha hs
theorem width_pos_ (s:ByteArray) (i:Nat):1≤(Utf8.decode s i).2:=by
 simp only[Utf8.decode]
 repeat' split
 all_goals simp
theorem decode_cont (s:ByteArray) (i:Nat):∀k,0<k→k<(Utf8.decode s i).2→i+k<s.size∧128≤(s.get! (i+k)).toNat:=by
 intro k h1 h2
 simp only[Utf8.decode] at h2
 repeat' split at h2
 all_goals try omega
 all_goals rename_i hA _
 all_goals simp only[Bool.and_eq_true,decide_eq_true_eq,beq_iff_eq] at *
 all_goals
  have hk:k=1∨k=2∨k=3:=by omega
  rcases hk with rfl | rfl | rfl <;> first | omega | (constructor <;> omega)
set_option maxHeartbeats 8000000 in
set_option maxRecDepth 100000 in
theorem any_short (s chars:ByteArray) (w:World) (h2:2≤chars.size) (h3:chars.size≤8) (h8:s.size≤8) (ha:chars.data.toList.all (fun b=>b.toNat<128)=true) :
  Calls Tryz.prog 236 #[.string s,.string chars] w fun e w'=>e=.returned (.int .i64 (Lib.indexAny s.data.toList chars.data.toList))∧Below w.heap.size w w':=by
 have c1:chars.toList.isEmpty=false:=by
  rw[ByteArray.toList_eq]
  cases h:chars.data.toList with
  | nil =>
   have hl:chars.data.toList.length=chars.size:=rfl
   rw[h] at hl
   have:chars.size=0:=hl.symm
   omega
  | cons a l=>rfl
 have c2:((chars.size:Int)==1)=false:=by rw[beq_eq_false_iff_ne];omega
 have c3:decide ((8:Int)<(s.size:Int))=false:=decide_eq_false bo%
 go_enter Tryz.func236,Tryz.ntmps236
 go_wp2_with (go_at_call 261;refine (Tryz.strings_shouldUseASCIISet (s.size:Int) _).mono ?_;rintro e w4 ⟨rfl,rfl⟩;rw[c3])
 go_loopg [] (s.size+1) (fun gf wx=>∃pos:Nat,wx.heap[w4.heap.size]? = some (.stringIter s pos)∧Below w4.heap.size w4 wx∧s.size<pos+gf∧Lib.NoAny s.data.toList chars.data.toList pos)
 case atStart=>exact ⟨0,World.iter_heap _ s 0,(Below.refl _ _).alloc (Nat.le_refl _) _,by omega,Lib.NoAny.zero _ _⟩
 case round =>
  obtain ⟨pos,hit,hbw,hfu,hno⟩:=hrel
  by_cases hps:pos<s.size
  ·obtain ⟨g',rfl⟩:∃g',gk=g'+1:=⟨gk-1,by omega⟩
   have hnx:∀ty,(Instr.next (.pointer (some ⟨w4.heap.size,0,none⟩)) true ty).run Tryz.prog wr=_:=fun ty=>Lib.run_next_any_at wr w4.heap.size s pos ty hit hps
   have hwd:=width_pos_ s pos
   have hcont:=decode_cont s pos
   have hdec:(s[pos]'hps).toNat<128∧(Utf8.decode s pos).1=(s[pos]'hps).toNat∧(Utf8.decode s pos).2=1∨128≤(s[pos]'hps).toNat∧128≤(Utf8.decode s pos).1:=by
    rcases Nat.lt_or_ge (s[pos]'hps).toNat 128 with h | h
    ·rw[decode_ascii s pos hps h];exact .inl ⟨h,rfl,rfl⟩
    ·exact .inr ⟨h,(decode_high s pos hps h).1⟩
   obtain ⟨R,hR⟩:∃R,(Utf8.decode s pos).1=R:=⟨_,rfl⟩
   obtain ⟨K,hK⟩:∃K,(Utf8.decode s pos).2=K:=⟨_,rfl⟩
   rw[hR,hK] at hnx hdec
   rw[hK] at hwd hcont
   have hit2:=Lib.iterAt_heap wr w4.heap.size s pos (pos+K) hit
   have hbw2:=Lib.below_iterAt hbw (k:=w4.heap.size) (Nat.le_refl _) s (pos+K)
   obtain ⟨W,hWd⟩:∃W,wr.iterAt w4.heap.size s (pos+K)=W:=⟨_,rfl⟩
   rw[hWd] at hnx hit2 hbw2
   have hget:s.data.toList[pos]? = some (s[pos]'hps):=by rw[List.getElem?_eq_getElem (by simpa using hps)];rfl
   by_cases hc:chars.data.toList.contains (s[pos]'hps)=true
   ·-- a hit
    have hres:=Lib.indexAny_hit hno hget hc
    have hlt:(s[pos]'hps).toNat<128:=by
     have:=List.all_eq_true.1 ha (s[pos]'hps) (by simpa using hc)
     simpa using this
    have hRK:R=(s[pos]'hps).toNat:=by
     rcases hdec with h | h
     ·exact h.2.1
     ·omega
    have hib:decide (Lib.indexByte chars.data.toList R.toUInt8≥0)=true:=by
     have h1:=Lib.indexByte_ge chars.data.toList R.toUInt8
     have h2:R.toUInt8=s[pos]'hps:=by rw[hRK];simp
     by_cases h3:Lib.indexByte chars.data.toList R.toUInt8 = -1
     ·exfalso
      have h4:=Lib.indexByte_none h3
      have h5:(s[pos]'hps)∈chars.data.toList:=by simpa using hc
      obtain ⟨j,hj,hje⟩:=List.getElem_of_mem h5
      exact h4 j (by rw[List.getElem?_eq_getElem hj,hje,h2])
     ·exact decide_eq_true bo%
    have cS:=rune_any chars R W ha h3
    rw[if_pos bo%] at cS
    generalize Lib.indexByte chars.data.toList R.toUInt8=V at cS hib
    clear hdec hcont hno hget hc hRK hlt ha hwd hK hR
    go_wp2_with (go_at_call 217;refine cS.mono ?_;rintro e w6 ⟨rfl,hb6⟩)
    go_ret
    exact ⟨by rw[hres];try rfl,hbw2.trans (hb6.mono hbw2.size)⟩
   ·have hno2:Lib.NoAny s.data.toList chars.data.toList (pos+K):=by
     intro j b hj hb
     rcases Nat.lt_or_ge j pos with h | h
     ·exact hno j b h hb
     ·have hjs:j<s.size:=by have:=(List.getElem?_eq_some_iff.1 hb).1;simpa using this
      have hbj:b=s[j]'hjs:=by have:=(List.getElem?_eq_some_iff.1 hb).2;rw[←this];rfl
      rcases Nat.eq_or_lt_of_le h with h4 | h4
      ·subst h4;rw[hbj];simpa using hc
      ·have h5:=(hcont (j-pos) bo% bo%).2
       rw[show pos+(j-pos)=j by omega] at h5
       have h6:s.get! j=s[j]'hjs:=get_at s j hjs
       rw[h6,←hbj] at h5
       cases h7:chars.data.toList.contains b
       ·rfl
       ·have:=List.all_eq_true.1 ha b (by simpa using h7)
        simp at this
        omega
    have hib:decide ((if R<128 then Lib.indexByte chars.data.toList R.toUInt8 else -1)≥0)=false:=by
     rcases hdec with ⟨h4,h5,h6⟩ | ⟨h4,h5⟩
     ·rw[if_pos bo%]
      have h2:R.toUInt8=s[pos]'hps:=by rw[h5];simp
      refine decide_eq_false (fun h7=>hc ?_)
      obtain ⟨o,ho⟩:∃o:Nat,Lib.indexByte chars.data.toList R.toUInt8=(o:Int):=⟨(Lib.indexByte chars.data.toList R.toUInt8).toNat,by omega⟩
      have h8:=List.mem_of_getElem? (Lib.indexByte_some ho).1
      rw[h2] at h8
      simpa using h8
     ·rw[if_neg bo%];rfl
    have cS:=rune_any chars R W ha h3
    generalize (if R<128 then Lib.indexByte chars.data.toList R.toUInt8 else -1)=V at cS hib
    clear hdec hcont hno hget hc ha hK hR
    go_wp2_with (go_at_call 217;refine cS.mono ?_;rintro e w6 ⟨rfl,hb6⟩)
    go_roundg g'
    case measure=>omega
    case rel=>exact ⟨pos+K,(hb6.block _ (Array.getElem?_eq_some_iff.1 hit2).1).trans hit2,hbw2.trans (hb6.mono hbw2.size),by omega,hno2⟩
  ·have hnx:∀ty,(Instr.next (.pointer (some ⟨w4.heap.size,0,none⟩)) true ty).run Tryz.prog wr=_:=fun ty=>Lib.run_next_end_at wr w4.heap.size s pos ty hit hps
   have hres:Lib.indexAny s.data.toList chars.data.toList = -1:=Lib.indexAny_none (fun j b hj hb=>hno j b (by simp at hj;omega) hb)
   go_wp2
   go_ret
   exact ⟨by rw[hres];try rfl,hbw⟩
set_option maxRecDepth 1000000 in
theorem hv_set:∀w,(zeroValue 125).run Tryz.prog w=.ok (.agg (Array.replicate 256 (.bool false))) w:=by
 intro w
 kernel_rfl
theorem any_ok (s cs:ByteArray) (w:World) (h1:s.size<4294967281) (h2:2≤cs.size) (h3:cs.size≤8) (h4:cs.data.toList.all (fun b=>b.toNat<128)=true) :
  Calls Tryz.prog 236 #[.string s,.string cs] w fun e w'=>e=.returned (.int .i64 (Lib.indexAny s.data.toList cs.data.toList))∧Below w.heap.size w w':=by
 by_cases h8:s.size≤8
 ·exact any_short s cs w h2 h3 h8 h4
 ·refine (Tryz.strings_IndexAny_long hv_set s cs w h2 bo% h1 bo% (fun j b hb=>?_)).mono ?_
  ·have:=List.all_eq_true.1 h4 b (List.mem_of_getElem? hb)
   simpa using this
  ·rintro e w' ⟨rfl,rfl⟩
   exact ⟨rfl,((Below.refl _ _).alloc (Nat.le_refl _) _).alloc (by simp) _⟩
end Go.Proofs.YtpfnljkjjnnliaaGreatDoorQ
set_option maxRecDepth 100000
namespace Go.VM.T
open Go.Proofs Go.VM
abbrev UT:Ty:=(.pair .str (.pair .str (.pair .str (.pair (.pair (.int .i64) (.pair .str (.pair (.int .i64) .unit))) (.pair (.int .i64) (.pair (.lst .str) (.pair .str (.pair .bool (.pair .str (.pair .bool (.pair .str .unit)))))))))))
noncomputable section
def tys:List (Nat×Ty):=[(2,(.int .i64)),
 (3,(.int .i64)),
 (4,.bool),
 (5,(.int .u8)),
 (6,(.int .u8)),
 (7,(.pair (.int .i64) (.pair (.int .i64) (.pair .bool (.pair (.int .u8) .unit))))),
 (8,(.pair (.int .i64) (.pair (.int .i64) (.pair .bool (.pair (.int .u8) .unit))))),
 (9,.str),
 (10,.str),
 (11,.str),
 (12,(.int .u64)),
 (13,(.pair .str (.pair (.int .u64) .unit))),
 (14,(.pair .str (.pair (.int .u64) .unit))),
 (21,(.int .i32)),
 (22,(.lst (.int .u8))),
 (23,(.lst (.pair .str (.pair .str (.pair .str (.pair .bool (.pair .str (.pair (.int .i64) (.pair .bool (.pair (.int .i64) (.pair (.int .i64) .unit))))))))))),
 (29,(.pair .str (.pair .str (.pair .str (.pair .bool (.pair .str (.pair (.int .i64) (.pair .bool (.pair (.int .i64) (.pair (.int .i64) .unit)))))))))),
 (30,(.pair .str (.pair .str (.pair .str (.pair .bool (.pair .str (.pair (.int .i64) (.pair .bool (.pair (.int .i64) (.pair (.int .i64) .unit)))))))))),
 (32,(.pair (.int .i64) (.pair .str (.pair (.int .i64) .unit)))),
 (33,(.pair (.int .i64) (.pair .str (.pair (.int .i64) .unit)))),
 (34,(.lst .str)),
 (35,UT),
 (36,UT),
 (47,(.lst (.pair .str (.pair .str (.pair .str (.pair .bool (.pair .str (.pair (.int .i64) (.pair .bool (.pair (.int .i64) (.pair (.int .i64) .unit))))))))))),
 (48,(.pair (.int .i64) (.pair .str (.pair (.int .i64) .unit)))),
 (49,UT),
 (50,UT),
 (93,(.pair .str (.pair .str (.pair .str (.pair .bool (.pair .str (.pair (.int .i64) (.pair .bool (.pair (.int .i64) (.pair (.int .i64) .unit)))))))))),
 (107,(.pair (.lst (.int .u8)) (.pair (.int .i64) .unit))),
 (108,(.pair (.lst (.int .u8)) (.pair (.int .i64) .unit))),
 (110,(.lst (.int .i64))),
 (131,.err),
 (132,.err),
 (167,(.int .u64)),
 (169,(.int .i64)),
 (186,(.int .u64)),
 (194,(.int .u32)),
 (198,(.pair (.int .u8) (.pair (.int .u8) .unit))),
 (199,(.pair (.int .u8) (.pair (.int .u8) .unit))),
 (204,(.pair .str (.pair .str (.pair .err .unit)))),
 (205,(.pair .str (.pair .str (.pair .err .unit)))),
 (216,(.pair .str .unit)),
 (217,(.pair .str .unit)),
 (229,(.int .u8)),
 (230,(.int .u8)),
 (232,(.int .i32)),
 (233,(.int .i32))]
def eqs:List (Nat×Ty):=[(30,(.pair .str (.pair .str (.pair .str (.pair .bool (.pair .str (.pair (.int .i64) (.pair .bool (.pair (.int .i64) (.pair (.int .i64) .unit)))))))))),(33,(.pair (.int .i64) (.pair .str (.pair (.int .i64) .unit))))]
def e76:Ent:=⟨⟨[((.pair .str (.pair .str (.pair .str (.pair .bool (.pair .str (.pair (.int .i64) (.pair .bool (.pair (.int .i64) (.pair (.int .i64) .unit))))))))),0),((.int .i64),0)],[((.int .i64),1)]⟩,none,Tryz.f76,[]⟩
def e22:Ent:=⟨⟨[((.lst (.pair .str (.pair .str (.pair .str (.pair .bool (.pair .str (.pair (.int .i64) (.pair .bool (.pair (.int .i64) (.pair (.int .i64) .unit)))))))))),0),((.int .i64),0)],[((.int .i64),1)]⟩,none,Tryz.f22,[(10,[0],[.tmp 1 (.int .i64) false,.tmp 5 (.int .i64) false])]⟩
def e77:Ent:=⟨⟨[((.pair (.int .i64) (.pair .str (.pair (.int .i64) .unit))),0),((.int .i64),0)],[((.int .i64),1)]⟩,none,Tryz.f77,[]⟩
def e78:Ent:=⟨⟨[((.lst .str),0),((.int .i64),0)],[((.int .i64),1)]⟩,none,Tryz.f78,[(10,[0],[.tmp 1 (.int .i64) false,.tmp 5 (.int .i64) false])]⟩
def e23:Ent:=⟨⟨[(UT,0),((.int .i64),0)],[((.int .i64),1)]⟩,none,Tryz.f23,[]⟩
def e79:Ent:=⟨⟨[((.pair .str (.pair .str (.pair .str (.pair .bool (.pair .str (.pair (.int .i64) (.pair .bool (.pair (.int .i64) (.pair (.int .i64) .unit))))))))),0)],[((.pair .str (.pair .str (.pair .str (.pair .bool (.pair .str (.pair (.int .i64) (.pair .bool (.pair (.int .i64) (.pair (.int .i64) .unit))))))))),1)]⟩,none,Tryz.f79,[]⟩
def e24:Ent:=⟨⟨[((.lst (.pair .str (.pair .str (.pair .str (.pair .bool (.pair .str (.pair (.int .i64) (.pair .bool (.pair (.int .i64) (.pair (.int .i64) .unit)))))))))),0)],[((.lst (.pair .str (.pair .str (.pair .str (.pair .bool (.pair .str (.pair (.int .i64) (.pair .bool (.pair (.int .i64) (.pair (.int .i64) .unit)))))))))),1)]⟩,none,Tryz.f24,[(6,[0,3],[.tmp 4 (.int .i64) false,.tmp 3 (.lst (.pair .str (.pair .str (.pair .str (.pair .bool (.pair .str (.pair (.int .i64) (.pair .bool (.pair (.int .i64) (.pair (.int .i64) .unit)))))))))) true])]⟩
def e80:Ent:=⟨⟨[((.pair (.int .i64) (.pair .str (.pair (.int .i64) .unit))),0)],[((.pair (.int .i64) (.pair .str (.pair (.int .i64) .unit))),1)]⟩,none,Tryz.f80,[]⟩
def e81:Ent:=⟨⟨[((.lst .str),0)],[((.lst .str),1)]⟩,none,Tryz.f81,[(6,[0,3],[.tmp 4 (.int .i64) false,.tmp 3 (.lst .str) true])]⟩
def e25:Ent:=⟨⟨[(UT,0)],[(UT,1)]⟩,none,Tryz.f25,[]⟩
def e155:Ent:=⟨⟨[(.str,0),((.int .u8),0)],[((.lst .str),1)]⟩,none,Tryz.f155,[(8,[0,1],[.tmp 5 (.lst .str) true,.tmp 6 (.int .i64) false,.tmp 7 (.int .i64) false])]⟩
def e75:Ent:=⟨⟨[((.int .i64),0),((.int .i64),0),((.int .i64),0)],[(.bool,1)]⟩,none,Tryz.f75,[]⟩
def e182:Ent:=⟨⟨[(.str,0)],[(.bool,1)]⟩,none,Tryz.f182,[(6,[0,3],[.tmp 4 (.int .i64) false]),(16,[0,3,4],[.tmp 5 (.int .i64) false])]⟩
def e109:Ent:=⟨⟨[(.str,0)],[((.lst .str),1)]⟩,none,Tryz.f109,[]⟩
def e254:Ent:=⟨⟨[((.int .u8),0)],[((.int .i64),1)]⟩,none,Tryz.f254,[]⟩
def e225:Ent:=⟨⟨[(.str,0),((.int .i64),0)],[((.int .i64),1)]⟩,none,Tryz.f225,[(6,[0,1],[.tmp 5 (.int .i64) false,.tmp 6 (.int .i64) false])]⟩
def e184:Ent:=⟨⟨[(.str,0)],[((.int .i64),1)]⟩,none,Tryz.f184,[]⟩
def e183:Ent:=⟨⟨[(.str,0)],[(.bool,1)]⟩,none,Tryz.f183,[(14,[4],[.tmp 5 .bool false,.tmp 6 (.int .i64) false])]⟩
def e135:Ent:=⟨⟨[((.pair (.int .i64) (.pair .str (.pair (.int .i64) .unit))),0)],[(.bool,1)]⟩,none,Tryz.f135,[]⟩
def e71:Ent:=⟨⟨[(.str,0)],[(.bool,1)]⟩,none,Tryz.f71,[]⟩
def e136:Ent:=⟨⟨[(.str,0)],[((.int .i64),1),(.bool,1)]⟩,none,Tryz.f136,[(12,[4],[.tmp 5 (.int .i64) false,.tmp 6 (.int .i64) false]),(24,[4,5,6,7],[.tmp 8 (.int .i64) false,.tmp 9 (.int .i64) false])]⟩
def e143:Ent:=⟨⟨[((.int .i64),0)],[(.str,1)]⟩,none,Tryz.f143,[]⟩
def e150:Ent:=⟨⟨[((.int .i64),0)],[(.str,1)]⟩,none,Tryz.f150,[]⟩
def e104:Ent:=⟨⟨[((.pair (.int .i64) (.pair .str (.pair (.int .i64) .unit))),0)],[(.str,1)]⟩,none,Tryz.f104,[]⟩
def e72:Ent:=⟨⟨[(.str,0)],[(.bool,1)]⟩,none,Tryz.f72,[]⟩
def e73:Ent:=⟨⟨[(.str,0)],[(.bool,1)]⟩,none,Tryz.f73,[(4,[0],[.tmp 3 (.int .i64) false])]⟩
def e74:Ent:=⟨⟨[((.pair .str (.pair .str (.pair .str (.pair .bool (.pair .str (.pair (.int .i64) (.pair .bool (.pair (.int .i64) (.pair (.int .i64) .unit))))))))),0)],[(.bool,1)]⟩,none,Tryz.f74,[]⟩
def e21:Ent:=⟨⟨[((.pair .str (.pair .str (.pair .str (.pair .bool (.pair .str (.pair (.int .i64) (.pair .bool (.pair (.int .i64) (.pair (.int .i64) .unit))))))))),0)],[(.bool,1)]⟩,none,Tryz.f21,[]⟩
def e45:Ent:=⟨⟨[((.pair .str (.pair .str (.pair .str (.pair .bool (.pair .str (.pair (.int .i64) (.pair .bool (.pair (.int .i64) (.pair (.int .i64) .unit))))))))),0),((.pair .str (.pair .str (.pair .str (.pair .bool (.pair .str (.pair (.int .i64) (.pair .bool (.pair (.int .i64) (.pair (.int .i64) .unit))))))))),0)],[(.bool,1)]⟩,none,Tryz.f45,[]⟩
def e12:Ent:=⟨⟨[((.lst (.pair .str (.pair .str (.pair .str (.pair .bool (.pair .str (.pair (.int .i64) (.pair .bool (.pair (.int .i64) (.pair (.int .i64) .unit)))))))))),0)],[(.bool,1)]⟩,none,Tryz.f12,[(4,[0],[.tmp 3 (.int .i64) false]),(14,[0,3],[.tmp 4 (.int .i64) false])]⟩
def e196:Ent:=⟨⟨[(.str,0)],[((.int .i64),1)]⟩,none,Tryz.f196,[]⟩
def e187:Ent:=⟨⟨[((.lst .str),0)],[(.str,1)]⟩,none,Tryz.f187,[(6,[0],[.tmp 3 .str false,.tmp 4 (.int .i64) false])]⟩
def e148:Ent:=⟨⟨[(UT,0)],[(.str,1)]⟩,none,Tryz.f148,[(21,[1],[.tmp 3 .str false]),(27,[1],[.tmp 3 .str false]),(29,[1],[.tmp 3 .str false]),(33,[1],[.tmp 3 .str false])]⟩
def e193:Ent:=⟨⟨[(.str,0)],[(.str,1)]⟩,none,Tryz.f193,[(2,[],[.tmp 0 .str false]),(6,[],[.tmp 0 .str false]),(14,[0],[.tmp 3 (.lst (.int .u8)) true,.tmp 4 (.int .i64) false])]⟩
def e152:Ent:=⟨⟨[(.str,0)],[(.str,1)]⟩,none,Tryz.f152,[(6,[0],[.tmp 3 (.lst (.int .u8)) true,.tmp 4 (.int .i64) false])]⟩
def e192:Ent:=⟨⟨[(.str,0)],[(.str,1),(.str,1),(.bool,1)]⟩,none,Tryz.f192,[(4,[0],[.tmp 5 (.int .i64) false])]⟩
def e231:Ent:=⟨⟨[(.str,0),(.str,0)],[((.int .i64),1)]⟩,none,Tryz.f231,[(4,[0,1],[.tmp 5 (.int .i64) false]),(10,[0,1,5],[.tmp 6 (.int .i64) false])]⟩
def e256:Ent:=⟨⟨[((.int .i64),0)],[(.str,1)]⟩,none,Tryz.f256,[]⟩
def e257:Ent:=⟨⟨[(.str,0),((.int .u8),0)],[(.bool,1)]⟩,none,Tryz.f257,[(4,[0,1],[.tmp 5 (.int .i64) false])]⟩
def e258:Ent:=⟨⟨[((.int .i64),0)],[((.int .u8),1)]⟩,none,Tryz.f258,[]⟩
def e232:Ent:=⟨⟨[((.int .i64),0),(.str,0)],[(.str,1)]⟩,none,Tryz.f232,[(8,[1,6],[.tmp 5 (.lst (.int .u8)) true,.tmp 7 (.int .i64) false])]⟩
def e233:Ent:=⟨⟨[(UT,0),(.str,0)],[(UT,0)]⟩,none,Tryz.f233,[]⟩
def e272:Ent:=⟨⟨[(UT,0),(.str,0)],[(UT,0)]⟩,none,Tryz.f272,[]⟩
def e230:Ent:=⟨⟨[(.str,0)],[(.str,1)]⟩,none,Tryz.f230,[(6,[0],[.tmp 3 (.lst (.int .u8)) true,.tmp 4 (.int .i64) false])]⟩
def e190:Ent:=⟨⟨[(.str,0)],[((.pair (.int .i64) (.pair .str (.pair (.int .i64) .unit))),1),(.bool,1)]⟩,none,Tryz.f190,[]⟩
def e273:Ent:=⟨⟨[(.str,0),((.int .i64),0)],[((.int .i64),1)]⟩,none,Tryz.f273,[]⟩
def e259:Ent:=⟨⟨[(UT,0),(.str,0)],[(UT,0),(.bool,1)]⟩,none,Tryz.f259,[(6,[1,2,4],[.tmp 6 (.int .i64) false,.tmp 7 (.int .i64) false])]⟩
def e275:Ent:=⟨⟨[(.str,0)],[((.lst .str),1)]⟩,none,Tryz.f275,[(6,[3],[.tmp 4 (.int .i64) false,.tmp 3 (.lst (.int .u8)) true])]⟩
def e281:Ent:=⟨⟨[(.str,0)],[((.int .i64),1)]⟩,none,Tryz.f281,[]⟩
def e274:Ent:=⟨⟨[((.lst .str),0),((.lst .str),0)],[((.lst .str),1)]⟩,none,Tryz.f274,[(6,[1],[.tmp 5 (.lst .str) true,.tmp 6 (.int .i64) false])]⟩
def e260:Ent:=⟨⟨[(.str,0)],[((.lst .str),1)]⟩,none,Tryz.f260,[]⟩
def e234:Ent:=⟨⟨[(UT,0),(.str,0)],[(UT,0),(.bool,1)]⟩,none,Tryz.f234,[]⟩
def e194:Ent:=⟨⟨[(.str,0),(.str,0)],[(UT,0),(.bool,1)]⟩,none,Tryz.f194,[(12,[4,6],[.tmp 1 .str false])]⟩
def e195:Ent:=⟨⟨[(UT,0)],[(.bool,1)]⟩,none,Tryz.f195,[]⟩
def e147:Ent:=⟨⟨[(.str,0)],[(UT,0),(.bool,1)]⟩,none,Tryz.f147,[]⟩
def e149:Ent:=⟨⟨[(UT,0),(UT,0)],[(.bool,1)]⟩,none,Tryz.f149,[(8,[2,3],[.tmp 5 (.int .i64) false])]⟩
def e102:Ent:=⟨⟨[(UT,0)],[(.bool,1)]⟩,none,Tryz.f102,[]⟩
def e103:Ent:=⟨⟨[(.str,0),((.int .u8),0)],[((.lst .str),1)]⟩,none,Tryz.f103,[(8,[0,1],[.tmp 5 (.lst .str) true,.tmp 6 (.int .i64) false,.tmp 7 (.int .i64) false])]⟩
def e140:Ent:=⟨⟨[(UT,0)],[(.str,1)]⟩,none,Tryz.f140,[]⟩
def e105:Ent:=⟨⟨[(UT,0)],[(.str,1)]⟩,none,Tryz.f105,[(10,[3],[.tmp 4 (.int .i64) false])]⟩
def e151:Ent:=⟨⟨[(.str,0)],[(.str,1)]⟩,none,Tryz.f151,[(2,[],[.tmp 0 .str false]),(6,[],[.tmp 0 .str false])]⟩
def e106:Ent:=⟨⟨[(.str,0)],[(.str,1),(.str,1)]⟩,none,Tryz.f106,[(4,[0],[.tmp 4 (.int .i64) false])]⟩
def e153:Ent:=⟨⟨[(.str,0)],[((.int .i64),1)]⟩,none,Tryz.f153,[(6,[0],[.tmp 3 (.int .i64) false,.tmp 4 (.int .i64) false])]⟩
def e107:Ent:=⟨⟨[((.pair .str (.pair .str (.pair .str (.pair .bool (.pair .str (.pair (.int .i64) (.pair .bool (.pair (.int .i64) (.pair (.int .i64) .unit))))))))),0),((.int .i64),0),(.str,0),(.str,0)],[((.pair .str (.pair .str (.pair .str (.pair .bool (.pair .str (.pair (.int .i64) (.pair .bool (.pair (.int .i64) (.pair (.int .i64) .unit))))))))),1)]⟩,none,Tryz.f107,[]⟩
def e154:Ent:=⟨⟨[(.str,0),(.str,0)],[(.bool,1)]⟩,none,Tryz.f154,[]⟩
def e108:Ent:=⟨⟨[(.str,0),(.str,0)],[(.bool,1)]⟩,none,Tryz.f108,[]⟩
def e49:Ent:=⟨⟨[(UT,0),(.str,0),((.int .i64),0)],[((.pair .str (.pair .str (.pair .str (.pair .bool (.pair .str (.pair (.int .i64) (.pair .bool (.pair (.int .i64) (.pair (.int .i64) .unit))))))))),1),((.int .i64),1)]⟩,none,Tryz.f49,[(18,[2,3,6,8,9,10,11],[.tmp 12 (.int .i64) false,.box (nm 11 0) (.pair .str (.pair .str (.pair .str (.pair .bool (.pair .str (.pair (.int .i64) (.pair .bool (.pair (.int .i64) (.pair (.int .i64) .unit))))))))) false])]⟩
def e98:Ent:=⟨⟨[((.pair .str (.pair .str (.pair .str (.pair .bool (.pair .str (.pair (.int .i64) (.pair .bool (.pair (.int .i64) (.pair (.int .i64) .unit))))))))),0),((.int .i64),0)],[(.bool,1)]⟩,none,Tryz.f98,[]⟩
def e44:Ent:=⟨⟨[((.lst (.pair .str (.pair .str (.pair .str (.pair .bool (.pair .str (.pair (.int .i64) (.pair .bool (.pair (.int .i64) (.pair (.int .i64) .unit)))))))))),0),((.int .i64),0),(.bool,0)],[((.lst (.pair .str (.pair .str (.pair .str (.pair .bool (.pair .str (.pair (.int .i64) (.pair .bool (.pair (.int .i64) (.pair (.int .i64) .unit)))))))))),1)]⟩,none,Tryz.f44,[(6,[0,1,2],[.tmp 7 (.lst (.pair .str (.pair .str (.pair .str (.pair .bool (.pair .str (.pair (.int .i64) (.pair .bool (.pair (.int .i64) (.pair (.int .i64) .unit)))))))))) true,.tmp 8 (.int .i64) false])]⟩
def e50:Ent:=⟨⟨[((.lst (.pair .str (.pair .str (.pair .str (.pair .bool (.pair .str (.pair (.int .i64) (.pair .bool (.pair (.int .i64) (.pair (.int .i64) .unit)))))))))),0),((.pair .str (.pair .str (.pair .str (.pair .bool (.pair .str (.pair (.int .i64) (.pair .bool (.pair (.int .i64) (.pair (.int .i64) .unit))))))))),0),((.int .i64),0)],[((.lst (.pair .str (.pair .str (.pair .str (.pair .bool (.pair .str (.pair (.int .i64) (.pair .bool (.pair (.int .i64) (.pair (.int .i64) .unit)))))))))),1)]⟩,none,Tryz.f50,[(6,[0,2,4],[.tmp 7 (.lst (.pair .str (.pair .str (.pair .str (.pair .bool (.pair .str (.pair (.int .i64) (.pair .bool (.pair (.int .i64) (.pair (.int .i64) .unit)))))))))) true,.tmp 8 (.int .i64) false,.box (nm 4 0) (.pair .str (.pair .str (.pair .str (.pair .bool (.pair .str (.pair (.int .i64) (.pair .bool (.pair (.int .i64) (.pair (.int .i64) .unit))))))))) false]),(26,[7],[.tmp 9 (.int .i64) false,.tmp 10 (.int .i64) false]),(1000034,[7],[])]⟩
def e15:Ent:=⟨⟨[((.lst (.pair .str (.pair .str (.pair .str (.pair .bool (.pair .str (.pair (.int .i64) (.pair .bool (.pair (.int .i64) (.pair (.int .i64) .unit)))))))))),0),(UT,0),(.str,0),((.int .i64),0)],[((.lst (.pair .str (.pair .str (.pair .str (.pair .bool (.pair .str (.pair (.int .i64) (.pair .bool (.pair (.int .i64) (.pair (.int .i64) .unit)))))))))),1),((.int .i64),1)]⟩,none,Tryz.f15,[]⟩
def e129:Ent:=⟨⟨[((.int .u8),0)],[(.bool,1)]⟩,none,Tryz.f129,[]⟩
def e52:Ent:=⟨⟨[((.int .i64),0),((.int .i64),0),((.int .i64),0)],[(.bool,1)]⟩,none,Tryz.f52,[]⟩
def e55:Ent:=⟨⟨[(.str,0),(.str,0)],[((.lst .str),1)]⟩,some x_strings_Split,Tryz.f55,[]⟩
def e62:Ent:=⟨⟨[(.str,0)],[((.lst .str),1)]⟩,none,Tryz.f62,[]⟩
def e241:Ent:=⟨⟨[((.lst .str),0),(.str,0)],[((.int .i64),1)]⟩,none,Tryz.f241,[(4,[0,1,7],[.tmp 8 (.int .i64) false])]⟩
def e206:Ent:=⟨⟨[((.lst .str),0),(.str,0)],[(.bool,1)]⟩,none,Tryz.f206,[]⟩
def e160:Ent:=⟨⟨[(.str,0)],[(.bool,1)]⟩,none,Tryz.f160,[(4,[0,6],[.tmp 7 (.int .i64) false])]⟩
def e176:Ent:=⟨⟨[(.str,0),(.str,0)],[(.bool,1)]⟩,none,Tryz.f176,[]⟩
def e127:Ent:=⟨⟨[(.str,0),(.str,0)],[(.bool,1)]⟩,none,Tryz.f127,[]⟩
def e242:Ent:=⟨⟨[((.int .u8),0)],[((.int .i64),1)]⟩,none,Tryz.f242,[]⟩
def e207:Ent:=⟨⟨[(.str,0)],[((.int .i64),1),(.bool,1)]⟩,none,Tryz.f207,[(20,[0,4,32],[.tmp 5 (.int .i64) false,.tmp 33 (.int .i64) false])]⟩
def e161:Ent:=⟨⟨[(.str,0)],[(.bool,1)]⟩,none,Tryz.f161,[(18,[4,31],[.tmp 32 (.int .i64) false])]⟩
def e131:Ent:=⟨⟨[(.str,0)],[(.bool,1)]⟩,none,Tryz.f131,[]⟩
def e181:Ent:=⟨⟨[(.str,0)],[((.int .i64),1),(.bool,1)]⟩,none,Tryz.f181,[(12,[4,21,22],[.tmp 5 (.int .i64) false,.tmp 23 (.int .i64) false])]⟩
def e113:Ent:=⟨⟨[((.pair (.int .i64) (.pair .str (.pair (.int .i64) .unit))),0)],[(.bool,1)]⟩,none,Tryz.f113,[]⟩
def e114:Ent:=⟨⟨[((.int .i64),0)],[(.str,1)]⟩,some x_strconv_Itoa,Tryz.f114,[]⟩
def e115:Ent:=⟨⟨[((.lst .str),0),(.str,0)],[(.str,1)]⟩,some x_strings_Join,Tryz.f115,[]⟩
def e53:Ent:=⟨⟨[((.pair (.int .i64) (.pair .str (.pair (.int .i64) .unit))),0)],[(.str,1)]⟩,none,Tryz.f53,[(14,[1],[.tmp 3 (.lst .str) true,.tmp 4 (.int .i64) false])]⟩
def e133:Ent:=⟨⟨[(.str,0)],[(.bool,1)]⟩,none,Tryz.f133,[]⟩
def e130:Ent:=⟨⟨[(.str,0),((.int .u8),0)],[((.int .i64),1)]⟩,some x_strings_IndexByte,Tryz.f130,[]⟩
def e60:Ent:=⟨⟨[(.str,0)],[(.bool,1)]⟩,none,Tryz.f60,[(4,[0,6],[.tmp 7 (.int .i64) false])]⟩
def e63:Ent:=⟨⟨[((.pair .str (.pair .str (.pair .str (.pair .bool (.pair .str (.pair (.int .i64) (.pair .bool (.pair (.int .i64) (.pair (.int .i64) .unit))))))))),0)],[(.bool,1)]⟩,none,Tryz.f63,[]⟩
def e64:Ent:=⟨⟨[((.pair .str (.pair .str (.pair .str (.pair .bool (.pair .str (.pair (.int .i64) (.pair .bool (.pair (.int .i64) (.pair (.int .i64) .unit))))))))),0)],[(.bool,1)]⟩,none,Tryz.f64,[]⟩
def e66:Ent:=⟨⟨[((.pair .str (.pair .str (.pair .str (.pair .bool (.pair .str (.pair (.int .i64) (.pair .bool (.pair (.int .i64) (.pair (.int .i64) .unit))))))))),0),((.pair .str (.pair .str (.pair .str (.pair .bool (.pair .str (.pair (.int .i64) (.pair .bool (.pair (.int .i64) (.pair (.int .i64) .unit))))))))),0)],[(.bool,1)]⟩,none,Tryz.f66,[]⟩
def e20:Ent:=⟨⟨[((.lst (.pair .str (.pair .str (.pair .str (.pair .bool (.pair .str (.pair (.int .i64) (.pair .bool (.pair (.int .i64) (.pair (.int .i64) .unit)))))))))),0)],[(.bool,1)]⟩,none,Tryz.f20,[(4,[0,5,6],[.tmp 7 (.int .i64) false])]⟩
def e157:Ent:=⟨⟨[(.str,0)],[((.int .i64),1),(.bool,1)]⟩,none,Tryz.f157,[]⟩
def e158:Ent:=⟨⟨[(UT,0)],[(.str,1)]⟩,none,Tryz.f158,[]⟩
def e142:Ent:=⟨⟨[((.lst .str),0)],[(.str,1)]⟩,some x_impl_PathPut,Tryz.f142,[]⟩
def e111:Ent:=⟨⟨[(UT,0)],[(.str,1)]⟩,none,Tryz.f111,[(23,[1],[.tmp 3 .str false]),(29,[1],[.tmp 3 .str false])]⟩
def e198:Ent:=⟨⟨[(.str,0)],[(.str,1)]⟩,none,Tryz.f198,[(4,[0,4],[.tmp 3 (.int .i64) false]),(8,[0,3],[.tmp 4 (.int .i64) false]),(16,[37,38],[.tmp 5 (.lst (.int .u8)) true,.tmp 39 (.int .i64) false])]⟩
def e56:Ent:=⟨⟨[(.str,0),(.str,0)],[(.str,1),(.str,1),(.bool,1)]⟩,some x_strings_Cut,Tryz.f56,[]⟩
def e235:Ent:=⟨⟨[((.int .u8),0)],[(.bool,1)]⟩,none,Tryz.f235,[]⟩
def e59:Ent:=⟨⟨[(.str,0)],[(.str,1)]⟩,none,Tryz.f59,[(6,[3,8,9],[.tmp 10 (.int .i64) false,.row 449 (.int .u8)])]⟩
def e197:Ent:=⟨⟨[(.str,0)],[(.str,1),(.str,1),(.bool,1)]⟩,none,Tryz.f197,[(10,[5,6,29],[.tmp 30 (.int .i64) false])]⟩
def e236:Ent:=⟨⟨[(.str,0),(.str,0)],[((.int .i64),1)]⟩,some x_strings_IndexAny,Tryz.f236,[]⟩
def e199:Ent:=⟨⟨[(.str,0),(.str,0)],[(.str,1),(.str,1)]⟩,none,Tryz.f199,[]⟩
def e200:Ent:=⟨⟨[((.int .i64),0),(.str,0)],[(.str,1)]⟩,some x_impl_encode,Tryz.f200,[]⟩
def e201:Ent:=⟨⟨[((.pair .str (.pair .str (.pair .str (.pair (.pair (.int .i64) (.pair .str (.pair (.int .i64) .unit))) (.pair (.int .i64) (.pair .opq (.pair .str (.pair .bool (.pair .str (.pair .bool (.pair .str .unit))))))))))),1),(.str,0)],[]⟩,none,Tryz.f201,[]⟩
def e202:Ent:=⟨⟨[((.int .u8),0)],[(.bool,1)]⟩,none,Tryz.f202,[]⟩
def e166:Ent:=⟨⟨[(.str,0),((.int .u8),0)],[((.int .i64),1)]⟩,none,Tryz.f166,[(4,[0,1],[.tmp 5 (.int .i64) false])]⟩
def e116:Ent:=⟨⟨[(.str,0),((.int .u8),0)],[((.int .i64),1)]⟩,none,Tryz.f116,[]⟩
def e239:Ent:=⟨⟨[(.str,0)],[(.str,1)]⟩,some x_impl_Decode,Tryz.f239,[]⟩
def e203:Ent:=⟨⟨[(.str,0)],[((.pair (.int .i64) (.pair .str (.pair (.int .i64) .unit))),1),(.bool,1)]⟩,none,Tryz.f203,[]⟩
def e204:Ent:=⟨⟨[(.str,0),((.int .i64),0)],[((.int .i64),1),(.bool,1)]⟩,none,Tryz.f204,[(6,[0,1,9],[.tmp 6 (.int .i64) false,.tmp 10 (.int .i64) false])]⟩
def e262:Ent:=⟨⟨[((.lst .str),0)],[((.lst .str),1)]⟩,some x_impl_clone_string,Tryz.f262,[]⟩
def e263:Ent:=⟨⟨[(.str,0),(.str,0),(.str,0)],[(.str,1)]⟩,some x_strings_ReplaceAll,Tryz.f263,[]⟩
def e264:Ent:=⟨⟨[(.str,0)],[((.int .i64),1)]⟩,none,Tryz.f264,[]⟩
def e240:Ent:=⟨⟨[((.lst .str),0),(.str,0)],[((.lst .str),1)]⟩,none,Tryz.f240,[(8,[6,15,16],[.tmp 5 (.lst .str) true,.tmp 17 (.int .i64) false])]⟩
def e205:Ent:=⟨⟨[(.str,0)],[((.lst .str),1)]⟩,none,Tryz.f205,[]⟩
def e156:Ent:=⟨⟨[(.str,0)],[(UT,1),(.bool,1)]⟩,none,Tryz.f156,[(22,[2,7,8],[.tmp 5 .str false])]⟩
def e110:Ent:=⟨⟨[(.str,0)],[(UT,1),(.bool,1)]⟩,none,Tryz.f110,[]⟩
def e159:Ent:=⟨⟨[((.lst .str),0),((.lst .str),0)],[(.bool,1)]⟩,none,Tryz.f159,[(8,[0,1,12],[.tmp 13 (.int .i64) false])]⟩
def e112:Ent:=⟨⟨[(UT,0),(UT,0)],[(.bool,1)]⟩,none,Tryz.f112,[]⟩
def e51:Ent:=⟨⟨[(UT,0)],[(.bool,1)]⟩,none,Tryz.f51,[]⟩
def e95:Ent:=⟨⟨[(UT,0)],[(.str,1)]⟩,none,Tryz.f95,[]⟩
def e54:Ent:=⟨⟨[(UT,0)],[(.str,1)]⟩,none,Tryz.f54,[]⟩
def e57:Ent:=⟨⟨[(.str,0),(.str,0)],[(.str,1)]⟩,some x_strings_Trim,Tryz.f57,[]⟩
def e175:Ent:=⟨⟨[(.str,0),(.str,0)],[(.str,1)]⟩,none,Tryz.f175,[]⟩
def e126:Ent:=⟨⟨[(.str,0),(.str,0)],[(.str,1)]⟩,none,Tryz.f126,[]⟩
def e128:Ent:=⟨⟨[(.str,0)],[((.int .i64),1),(.err,1)]⟩,some x_strconv_Atoi,Tryz.f128,[]⟩
def e58:Ent:=⟨⟨[((.pair .str (.pair .str (.pair .str (.pair .bool (.pair .str (.pair (.int .i64) (.pair .bool (.pair (.int .i64) (.pair (.int .i64) .unit))))))))),1),(.str,0),(.str,0),((.int .i64),0)],[]⟩,none,Tryz.f58,[(20,[0,2,3,8,9,41],[.tmp 42 (.int .i64) false])]⟩
def e180:Ent:=⟨⟨[(.str,0),(.str,0)],[(.bool,1)]⟩,none,Tryz.f180,[]⟩
def e132:Ent:=⟨⟨[(.str,0),(.str,0)],[(.bool,1)]⟩,none,Tryz.f132,[]⟩
def e61:Ent:=⟨⟨[(.str,0),(.str,0)],[(.bool,1)]⟩,none,Tryz.f61,[]⟩
def e16:Ent:=⟨⟨[(UT,0),(.str,0),((.int .i64),0)],[((.pair .str (.pair .str (.pair .str (.pair .bool (.pair .str (.pair (.int .i64) (.pair .bool (.pair (.int .i64) (.pair (.int .i64) .unit))))))))),1),((.int .i64),1)]⟩,none,Tryz.f16,[(12,[2,3,6,8,9,44,45],[.tmp 46 (.int .i64) false,.box (nm 9 0) (.pair .str (.pair .str (.pair .str (.pair .bool (.pair .str (.pair (.int .i64) (.pair .bool (.pair (.int .i64) (.pair (.int .i64) .unit))))))))) false])]⟩
def e48:Ent:=⟨⟨[((.lst (.pair .str (.pair .str (.pair .str (.pair .bool (.pair .str (.pair (.int .i64) (.pair .bool (.pair (.int .i64) (.pair (.int .i64) .unit)))))))))),0)],[((.lst (.pair .str (.pair .str (.pair .str (.pair .bool (.pair .str (.pair (.int .i64) (.pair .bool (.pair (.int .i64) (.pair (.int .i64) .unit)))))))))),1)]⟩,some x_slices_Clone,Tryz.f48,[]⟩
def e43:Ent:=⟨⟨[((.pair .str (.pair .str (.pair .str (.pair .bool (.pair .str (.pair (.int .i64) (.pair .bool (.pair (.int .i64) (.pair (.int .i64) .unit))))))))),0),((.int .i64),0)],[(.bool,1)]⟩,none,Tryz.f43,[]⟩
def e68:Ent:=⟨⟨[((.pair .str (.pair .str (.pair .str (.pair .bool (.pair .str (.pair (.int .i64) (.pair .bool (.pair (.int .i64) (.pair (.int .i64) .unit))))))))),0),((.adr (.int .i64)),0)],[(.bool,1)]⟩,none,Tryz.f68,[]⟩
def e17:Ent:=⟨⟨[((.lst (.pair .str (.pair .str (.pair .str (.pair .bool (.pair .str (.pair (.int .i64) (.pair .bool (.pair (.int .i64) (.pair (.int .i64) .unit)))))))))),0),((.pair .str (.pair .str (.pair .str (.pair .bool (.pair .str (.pair (.int .i64) (.pair .bool (.pair (.int .i64) (.pair (.int .i64) .unit))))))))),0),((.int .i64),0)],[((.lst (.pair .str (.pair .str (.pair .str (.pair .bool (.pair .str (.pair (.int .i64) (.pair .bool (.pair (.int .i64) (.pair (.int .i64) .unit)))))))))),1)]⟩,none,Tryz.f17,[(28,[7,48,49],[.tmp 9 (.int .i64) false,.tmp 50 (.int .i64) false])]⟩
def e14:Ent:=⟨⟨[((.lst (.pair .str (.pair .str (.pair .str (.pair .bool (.pair .str (.pair (.int .i64) (.pair .bool (.pair (.int .i64) (.pair (.int .i64) .unit)))))))))),0),(UT,0),(.str,0),((.int .i64),0)],[((.lst (.pair .str (.pair .str (.pair .str (.pair .bool (.pair .str (.pair (.int .i64) (.pair .bool (.pair (.int .i64) (.pair (.int .i64) .unit)))))))))),1),((.int .i64),1)]⟩,none,Tryz.f14,[]⟩
def e82:Ent:=⟨⟨[((.pair .str (.pair .str (.pair .str (.pair .bool (.pair .str (.pair (.int .i64) (.pair .bool (.pair (.int .i64) (.pair (.int .i64) .unit))))))))),0),((.pair .str (.pair .str (.pair .str (.pair .bool (.pair .str (.pair (.int .i64) (.pair .bool (.pair (.int .i64) (.pair (.int .i64) .unit))))))))),0)],[(.bool,1)]⟩,none,Tryz.f82,[]⟩
def e26:Ent:=⟨⟨[((.lst (.pair .str (.pair .str (.pair .str (.pair .bool (.pair .str (.pair (.int .i64) (.pair .bool (.pair (.int .i64) (.pair (.int .i64) .unit)))))))))),0),((.lst (.pair .str (.pair .str (.pair .str (.pair .bool (.pair .str (.pair (.int .i64) (.pair .bool (.pair (.int .i64) (.pair (.int .i64) .unit)))))))))),0)],[(.bool,1)]⟩,none,Tryz.f26,[(8,[0,1],[.tmp 5 (.int .i64) false])]⟩
def e83:Ent:=⟨⟨[((.pair (.int .i64) (.pair .str (.pair (.int .i64) .unit))),0),((.pair (.int .i64) (.pair .str (.pair (.int .i64) .unit))),0)],[(.bool,1)]⟩,none,Tryz.f83,[]⟩
def e84:Ent:=⟨⟨[((.lst .str),0),((.lst .str),0)],[(.bool,1)]⟩,none,Tryz.f84,[(8,[0,1],[.tmp 5 (.int .i64) false])]⟩
def e27:Ent:=⟨⟨[(UT,0),(UT,0)],[(.bool,1)]⟩,none,Tryz.f27,[]⟩
def e85:Ent:=⟨⟨[((.int .i64),0)],[(.str,1)]⟩,none,Tryz.f85,[(8,[],[.tmp 0 (.int .i64) false,.tmp 3 .str false])]⟩
def e28:Ent:=⟨⟨[((.pair .str (.pair .str (.pair .str (.pair .bool (.pair .str (.pair (.int .i64) (.pair .bool (.pair (.int .i64) (.pair (.int .i64) .unit))))))))),2),((.int .i64),0)],[((.int .i64),1)]⟩,none,Tryz.f28,[(4,[0],[.tmp 1 (.int .i64) false,.tmp 5 (.int .i64) false,.row (pn 0 1) (.pair .str (.pair .str (.pair .str (.pair .bool (.pair .str (.pair (.int .i64) (.pair .bool (.pair (.int .i64) (.pair (.int .i64) .unit)))))))))])]⟩
def e86:Ent:=⟨⟨[(.str,2),((.int .i64),0)],[((.int .i64),1)]⟩,none,Tryz.f86,[(4,[0],[.tmp 1 (.int .i64) false,.tmp 5 (.int .i64) false,.row (pn 0 1) .str])]⟩
def e29:Ent:=⟨⟨[(UT,3),((.int .i64),0)],[((.int .i64),1)]⟩,none,Tryz.f29,[]⟩
def e30:Ent:=⟨⟨[((.lst (.pair .str (.pair .str (.pair .str (.pair .bool (.pair .str (.pair (.int .i64) (.pair .bool (.pair (.int .i64) (.pair (.int .i64) .unit)))))))))),0),((.int .i64),0)],[((.int .i64),1)]⟩,none,Tryz.f30,[(4,[0],[.tmp 1 (.int .i64) false,.tmp 5 (.int .i64) false])]⟩
def e6:Ent:=⟨⟨[((.lst (.pair .str (.pair .str (.pair .str (.pair .bool (.pair .str (.pair (.int .i64) (.pair .bool (.pair (.int .i64) (.pair (.int .i64) .unit)))))))))),0),(UT,0),(.str,0),((.int .i64),0)],[(.bool,1)]⟩,none,Tryz.f6,[]⟩
def Γ:Ctx:={ tys:=tys,globs:=[(1,⟨.lst .str,setsL⟩)],ents:=[(76,e76),(22,e22),(77,e77),(78,e78),(23,e23),(79,e79),(24,e24),(80,e80),(81,e81),(25,e25),(155,e155),(75,e75),(182,e182),(109,e109),(254,e254),(225,e225),(184,e184),(183,e183),(135,e135),(71,e71),(136,e136),(143,e143),(150,e150),(104,e104),(72,e72),(73,e73),(74,e74),(21,e21),(45,e45),(12,e12),(196,e196),(187,e187),(148,e148),(193,e193),(152,e152),(192,e192),(231,e231),(256,e256),(257,e257),(258,e258),(232,e232),(233,e233),(272,e272),(230,e230),(190,e190),(273,e273),(259,e259),(275,e275),(281,e281),(274,e274),(260,e260),(234,e234),(194,e194),(195,e195),(147,e147),(149,e149),(102,e102),(103,e103),(140,e140),(105,e105),(151,e151),(106,e106),(153,e153),(107,e107),(154,e154),(108,e108),(49,e49),(98,e98),(44,e44),(50,e50),(15,e15),(129,e129),(52,e52),(55,e55),(62,e62),(241,e241),(206,e206),(160,e160),(176,e176),(127,e127),(242,e242),(207,e207),(161,e161),(131,e131),(181,e181),(113,e113),(114,e114),(115,e115),(53,e53),(133,e133),(130,e130),(60,e60),(63,e63),(64,e64),(66,e66),(20,e20),(157,e157),(158,e158),(142,e142),(111,e111),(198,e198),(56,e56),(235,e235),(59,e59),(197,e197),(236,e236),(199,e199),(200,e200),(201,e201),(202,e202),(166,e166),(116,e116),(239,e239),(203,e203),(204,e204),(262,e262),(263,e263),(264,e264),(240,e240),(205,e205),(156,e156),(110,e110),(159,e159),(112,e112),(51,e51),(95,e95),(54,e54),(57,e57),(175,e175),(126,e126),(128,e128),(58,e58),(180,e180),(132,e132),(61,e61),(16,e16),(48,e48),(43,e43),(68,e68),(17,e17),(14,e14),(82,e82),(26,e26),(83,e83),(84,e84),(27,e27),(85,e85),(28,e28),(86,e86),(29,e29),(30,e30),(6,e6)],eqs:=eqs,ho:=[(70,(1,(.pair .str (.pair .str (.pair .str (.pair .bool (.pair .str (.pair (.int .i64) (.pair .bool (.pair (.int .i64) (.pair (.int .i64) .unit))))))))))),(65,(0,(.pair .str (.pair .str (.pair .str (.pair .bool (.pair .str (.pair (.int .i64) (.pair .bool (.pair (.int .i64) (.pair (.int .i64) .unit))))))))))),(67,(2,(.pair .str (.pair .str (.pair .str (.pair .bool (.pair .str (.pair (.int .i64) (.pair .bool (.pair (.int .i64) (.pair (.int .i64) .unit))))))))))),(40,(3,(.pair .str (.pair .str (.pair .str (.pair .bool (.pair .str (.pair (.int .i64) (.pair .bool (.pair (.int .i64) (.pair (.int .i64) .unit)))))))))))],fz:=[(14,112),(15,41),(24,36),(24,107),(25,38),(25,72),(25,109)],wf:=WFe 0 4 5 Tryz.prog,wfm:=WFe_mono 0 4 5 Tryz.prog }
def cl_szCookie (n:Nat) (x0:TCookie) (x1:Int):Option (Int×Unit):=call Γ n 76 (x0,x1,())
def cl_szCookieS (n:Nat) (x0:List TCookie) (x1:Int):Option (Int×Unit):=call Γ n 22 (x0,x1,())
def cl_szHost (n:Nat) (x0:THost) (x1:Int):Option (Int×Unit):=call Γ n 77 (x0,x1,())
def cl_szStringS (n:Nat) (x0:List Bs) (x1:Int):Option (Int×Unit):=call Γ n 78 (x0,x1,())
def cl_szUrl (n:Nat) (x0:TUrl) (x1:Int):Option (Int×Unit):=call Γ n 23 (x0,x1,())
def cl_toCookie (n:Nat) (x0:TCookie):Option (TCookie×Unit):=call Γ n 79 (x0,())
def cl_toCookieS (n:Nat) (x0:List TCookie):Option ((List TCookie)×Unit):=call Γ n 24 (x0,())
def cl_toHost (n:Nat) (x0:THost):Option (THost×Unit):=call Γ n 80 (x0,())
def cl_toStringS (n:Nat) (x0:List Bs):Option ((List Bs)×Unit):=call Γ n 81 (x0,())
def cl_toUrl (n:Nat) (x0:TUrl):Option (TUrl×Unit):=call Γ n 25 (x0,())
def cs_l1Cut (n:Nat) (x0:Bs) (x1:Int):Option ((List Bs)×Unit):=call Γ n 155 (x0,x1,())
def cs_l1In (n:Nat) (x0:Int) (x1:Int) (x2:Int):Option (Bool×Unit):=call Γ n 75 (x0,x1,x2,())
def cs_l2Name (n:Nat) (x0:Bs):Option (Bool×Unit):=call Γ n 182 (x0,())
def cs_l2Parts (n:Nat) (x0:Bs):Option ((List Bs)×Unit):=call Γ n 109 (x0,())
def cs_l1Hex (n:Nat) (x0:Int):Option (Int×Unit):=call Γ n 254 (x0,())
def cs_l2Digits (n:Nat) (x0:Bs) (x1:Int):Option (Int×Unit):=call Γ n 225 (x0,x1,())
def cs_l2Part (n:Nat) (x0:Bs):Option (Int×Unit):=call Γ n 184 (x0,())
def cs_l2Ends (n:Nat) (x0:Bs):Option (Bool×Unit):=call Γ n 183 (x0,())
def cs_HostOk (n:Nat) (x0:THost):Option (Bool×Unit):=call Γ n 135 (x0,())
def cs_l7Name (n:Nat) (x0:Bs):Option (Bool×Unit):=call Γ n 71 (x0,())
def cs_FourGet (n:Nat) (x0:Bs):Option (Int×Bool×Unit):=call Γ n 136 (x0,())
def cs_l1Dec (n:Nat) (x0:Int):Option (Bs×Unit):=call Γ n 143 (x0,())
def cs_l2Four (n:Nat) (x0:Int):Option (Bs×Unit):=call Γ n 150 (x0,())
def cs_HostPut (n:Nat) (x0:THost):Option (Bs×Unit):=call Γ n 104 (x0,())
def cs_l7Four (n:Nat) (x0:Bs):Option (Bool×Unit):=call Γ n 72 (x0,())
def cs_l7Crumb (n:Nat) (x0:Bs):Option (Bool×Unit):=call Γ n 73 (x0,())
def cs_l7Prefix (n:Nat) (x0:TCookie):Option (Bool×Unit):=call Γ n 74 (x0,())
def cs_CookieOk (n:Nat) (x0:TCookie):Option (Bool×Unit):=call Γ n 21 (x0,())
def cs_l7Same (n:Nat) (x0:TCookie) (x1:TCookie):Option (Bool×Unit):=call Γ n 45 (x0,x1,())
def cs_JarOk (n:Nat) (x0:List TCookie):Option (Bool×Unit):=call Γ n 12 (x0,())
def cs_l3Own (n:Nat) (x0:Bs):Option (Int×Unit):=call Γ n 196 (x0,())
def cs_PathPut (n:Nat) (x0:List Bs):Option (Bs×Unit):=call Γ n 187 (x0,())
def cs_l3Put (n:Nat) (x0:TUrl):Option (Bs×Unit):=call Γ n 148 (x0,())
def cs_l3Trim (n:Nat) (x0:Bs):Option (Bs×Unit):=call Γ n 193 (x0,())
def cs_Lower (n:Nat) (x0:Bs):Option (Bs×Unit):=call Γ n 152 (x0,())
def cs_l3Scheme (n:Nat) (x0:Bs):Option (Bs×Bs×Bool×Unit):=call Γ n 192 (x0,())
def cs_l1At (n:Nat) (x0:Bs) (x1:Bs):Option (Int×Unit):=call Γ n 231 (x0,x1,())
def cs_l1Set (n:Nat) (x0:Int):Option (Bs×Unit):=call Γ n 256 (x0,())
def cs_l1Has (n:Nat) (x0:Bs) (x1:Int):Option (Bool×Unit):=call Γ n 257 (x0,x1,())
def cs_l1Figure (n:Nat) (x0:Int):Option (Int×Unit):=call Γ n 258 (x0,())
def cs_Encode (n:Nat) (x0:Int) (x1:Bs):Option (Bs×Unit):=call Γ n 232 (x0,x1,())
def cs_l3Tail (n:Nat) (x0:TUrl) (x1:Bs):Option (TUrl×Unit):=call Γ n 233 (x0,x1,())
def cs_l3Who (n:Nat) (x0:TUrl) (x1:Bs):Option (TUrl×Unit):=call Γ n 272 (x0,x1,())
def cs_Decode (n:Nat) (x0:Bs):Option (Bs×Unit):=call Γ n 230 (x0,())
def cs_HostGet (n:Nat) (x0:Bs):Option (THost×Bool×Unit):=call Γ n 190 (x0,())
def cs_l3Port (n:Nat) (x0:Bs) (x1:Int):Option (Int×Unit):=call Γ n 273 (x0,x1,())
def cs_l3Authority (n:Nat) (x0:TUrl) (x1:Bs):Option (TUrl×Bool×Unit):=call Γ n 259 (x0,x1,())
def cs_l3Pieces (n:Nat) (x0:Bs):Option ((List Bs)×Unit):=call Γ n 275 (x0,())
def cs_l3Dots (n:Nat) (x0:Bs):Option (Int×Unit):=call Γ n 281 (x0,())
def cs_l3Walk (n:Nat) (x0:List Bs) (x1:List Bs):Option ((List Bs)×Unit):=call Γ n 274 (x0,x1,())
def cs_PathGet (n:Nat) (x0:Bs):Option ((List Bs)×Unit):=call Γ n 260 (x0,())
def cs_l3Hosted (n:Nat) (x0:TUrl) (x1:Bs):Option (TUrl×Bool×Unit):=call Γ n 234 (x0,x1,())
def cs_l3Read (n:Nat) (x0:Bs) (x1:Bs):Option (TUrl×Bool×Unit):=call Γ n 194 (x0,x1,())
def cs_l3Fits (n:Nat) (x0:TUrl):Option (Bool×Unit):=call Γ n 195 (x0,())
def cs_UrlGet (n:Nat) (x0:Bs):Option (TUrl×Bool×Unit):=call Γ n 147 (x0,())
def cs_l3Equal (n:Nat) (x0:TUrl) (x1:TUrl):Option (Bool×Unit):=call Γ n 149 (x0,x1,())
def cs_UrlOk (n:Nat) (x0:TUrl):Option (Bool×Unit):=call Γ n 102 (x0,())
def cs_l7Cut (n:Nat) (x0:Bs) (x1:Int):Option ((List Bs)×Unit):=call Γ n 103 (x0,x1,())
def cs_l7Path (n:Nat) (x0:TUrl):Option (Bs×Unit):=call Γ n 140 (x0,())
def cs_PathOf (n:Nat) (x0:TUrl):Option (Bs×Unit):=call Γ n 105 (x0,())
def cs_l7Trim (n:Nat) (x0:Bs):Option (Bs×Unit):=call Γ n 151 (x0,())
def cs_l7Pair (n:Nat) (x0:Bs):Option (Bs×Bs×Unit):=call Γ n 106 (x0,())
def cs_l7Age (n:Nat) (x0:Bs):Option (Int×Unit):=call Γ n 153 (x0,())
def cs_l7Part (n:Nat) (x0:TCookie) (x1:Int) (x2:Bs) (x3:Bs):Option (TCookie×Unit):=call Γ n 107 (x0,x1,x2,x3,())
def cs_l7Ends (n:Nat) (x0:Bs) (x1:Bs):Option (Bool×Unit):=call Γ n 154 (x0,x1,())
def cs_DomainIn (n:Nat) (x0:Bs) (x1:Bs):Option (Bool×Unit):=call Γ n 108 (x0,x1,())
def cs_CookieGet (n:Nat) (x0:TUrl) (x1:Bs) (x2:Int):Option (TCookie×Int×Unit):=call Γ n 49 (x0,x1,x2,())
def cs_l7Over (n:Nat) (x0:TCookie) (x1:Int):Option (Bool×Unit):=call Γ n 98 (x0,x1,())
def cs_l7Clean (n:Nat) (x0:List TCookie) (x1:Int) (x2:Bool):Option ((List TCookie)×Unit):=call Γ n 44 (x0,x1,x2,())
def cs_l7Put (n:Nat) (x0:List TCookie) (x1:TCookie) (x2:Int):Option ((List TCookie)×Unit):=call Γ n 50 (x0,x1,x2,())
def cs_JarSet (n:Nat) (x0:List TCookie) (x1:TUrl) (x2:Bs) (x3:Int):Option ((List TCookie)×Int×Unit):=call Γ n 15 (x0,x1,x2,x3,())
def ci_isDigit (n:Nat) (x0:Int):Option (Bool×Unit):=call Γ n 129 (x0,())
def ci_in (n:Nat) (x0:Int) (x1:Int) (x2:Int):Option (Bool×Unit):=call Γ n 52 (x0,x1,x2,())
def c_strings_Split (n:Nat) (x0:Bs) (x1:Bs):Option ((List Bs)×Unit):=call Γ n 55 (x0,x1,())
def ci_labels (n:Nat) (x0:Bs):Option ((List Bs)×Unit):=call Γ n 62 (x0,())
def c_slices_Index_string (n:Nat) (x0:List Bs) (x1:Bs):Option (Int×Unit):=call Γ n 241 (x0,x1,())
def c_slices_Contains_string (n:Nat) (x0:List Bs) (x1:Bs):Option (Bool×Unit):=call Γ n 206 (x0,x1,())
def ci_isHostName (n:Nat) (x0:Bs):Option (Bool×Unit):=call Γ n 160 (x0,())
def c_stringslite_HasPrefix (n:Nat) (x0:Bs) (x1:Bs):Option (Bool×Unit):=call Γ n 176 (x0,x1,())
def c_strings_HasPrefix (n:Nat) (x0:Bs) (x1:Bs):Option (Bool×Unit):=call Γ n 127 (x0,x1,())
def ci_hex (n:Nat) (x0:Int):Option (Int×Unit):=call Γ n 242 (x0,())
def ci_labelNumber (n:Nat) (x0:Bs):Option (Int×Bool×Unit):=call Γ n 207 (x0,())
def ci_endsInNumber (n:Nat) (x0:Bs):Option (Bool×Unit):=call Γ n 161 (x0,())
def ci_plainName (n:Nat) (x0:Bs):Option (Bool×Unit):=call Γ n 131 (x0,())
def ci_FourGet (n:Nat) (x0:Bs):Option (Int×Bool×Unit):=call Γ n 181 (x0,())
def ci_HostOk (n:Nat) (x0:THost):Option (Bool×Unit):=call Γ n 113 (x0,())
def c_strconv_Itoa (n:Nat) (x0:Int):Option (Bs×Unit):=call Γ n 114 (x0,())
def c_strings_Join (n:Nat) (x0:List Bs) (x1:Bs):Option (Bs×Unit):=call Γ n 115 (x0,x1,())
def ci_HostPut (n:Nat) (x0:THost):Option (Bs×Unit):=call Γ n 53 (x0,())
def ci_isFour (n:Nat) (x0:Bs):Option (Bool×Unit):=call Γ n 133 (x0,())
def c_strings_IndexByte (n:Nat) (x0:Bs) (x1:Int):Option (Int×Unit):=call Γ n 130 (x0,x1,())
def ci_isToken (n:Nat) (x0:Bs):Option (Bool×Unit):=call Γ n 60 (x0,())
def ci_Cookie_prefixOk (n:Nat) (x0:TCookie):Option (Bool×Unit):=call Γ n 63 (x0,())
def ci_CookieOk (n:Nat) (x0:TCookie):Option (Bool×Unit):=call Γ n 64 (x0,())
def ci_Cookie_twin (n:Nat) (x0:TCookie) (x1:TCookie):Option (Bool×Unit):=call Γ n 66 (x0,x1,())
def ci_JarOk (n:Nat) (x0:List TCookie):Option (Bool×Unit):=call Γ n 20 (x0,())
def ci_special (n:Nat) (x0:Bs):Option (Int×Bool×Unit):=call Γ n 157 (x0,())
def ci_Url_tailText (n:Nat) (x0:TUrl):Option (Bs×Unit):=call Γ n 158 (x0,())
def ci_PathPut (n:Nat) (x0:List Bs):Option (Bs×Unit):=call Γ n 142 (x0,())
def ci_Url_text (n:Nat) (x0:TUrl):Option (Bs×Unit):=call Γ n 111 (x0,())
def ci_strip (n:Nat) (x0:Bs):Option (Bs×Unit):=call Γ n 198 (x0,())
def c_strings_Cut (n:Nat) (x0:Bs) (x1:Bs):Option (Bs×Bs×Bool×Unit):=call Γ n 56 (x0,x1,())
def ci_isLetter (n:Nat) (x0:Int):Option (Bool×Unit):=call Γ n 235 (x0,())
def ci_Lower (n:Nat) (x0:Bs):Option (Bs×Unit):=call Γ n 59 (x0,())
def ci_schemeOf (n:Nat) (x0:Bs):Option (Bs×Bs×Bool×Unit):=call Γ n 197 (x0,())
def c_strings_IndexAny (n:Nat) (x0:Bs) (x1:Bs):Option (Int×Unit):=call Γ n 236 (x0,x1,())
def ci_upTo (n:Nat) (x0:Bs) (x1:Bs):Option (Bs×Bs×Unit):=call Γ n 199 (x0,x1,())
def ci_encode (n:Nat) (x0:Int) (x1:Bs):Option (Bs×Unit):=call Γ n 200 (x0,x1,())
def ci_Url_tail (n:Nat) (x0:Bs×Bs×Bs×THost×Int×Nat×Bs×Bool×Bs×Bool×Bs×Unit) (x1:Bs):Option ((Bs×Bs×Bs×THost×Int×Nat×Bs×Bool×Bs×Bool×Bs×Unit)×Unit):=call Γ n 201 (x0,x1,())
def ci_isSlash (n:Nat) (x0:Int):Option (Bool×Unit):=call Γ n 202 (x0,())
def c_bytealg_LastIndexByteString (n:Nat) (x0:Bs) (x1:Int):Option (Int×Unit):=call Γ n 166 (x0,x1,())
def c_strings_LastIndexByte (n:Nat) (x0:Bs) (x1:Int):Option (Int×Unit):=call Γ n 116 (x0,x1,())
def ci_Decode (n:Nat) (x0:Bs):Option (Bs×Unit):=call Γ n 239 (x0,())
def ci_HostGet (n:Nat) (x0:Bs):Option (THost×Bool×Unit):=call Γ n 203 (x0,())
def ci_portOf (n:Nat) (x0:Bs) (x1:Int):Option (Int×Bool×Unit):=call Γ n 204 (x0,x1,())
def ci_clone_string (n:Nat) (x0:List Bs):Option ((List Bs)×Unit):=call Γ n 262 (x0,())
def c_strings_ReplaceAll (n:Nat) (x0:Bs) (x1:Bs) (x2:Bs):Option (Bs×Unit):=call Γ n 263 (x0,x1,x2,())
def ci_dots (n:Nat) (x0:Bs):Option (Int×Unit):=call Γ n 264 (x0,())
def ci_walk (n:Nat) (x0:List Bs) (x1:Bs):Option ((List Bs)×Unit):=call Γ n 240 (x0,x1,())
def ci_PathGet (n:Nat) (x0:Bs):Option ((List Bs)×Unit):=call Γ n 205 (x0,())
def ci_parse (n:Nat) (x0:Bs):Option (TUrl×Bool×Unit):=call Γ n 156 (x0,())
def ci_UrlGet (n:Nat) (x0:Bs):Option (TUrl×Bool×Unit):=call Γ n 110 (x0,())
def c_slices_Equal_string (n:Nat) (x0:List Bs) (x1:List Bs):Option (Bool×Unit):=call Γ n 159 (x0,x1,())
def ci_Url_same (n:Nat) (x0:TUrl) (x1:TUrl):Option (Bool×Unit):=call Γ n 112 (x0,x1,())
def ci_UrlOk (n:Nat) (x0:TUrl):Option (Bool×Unit):=call Γ n 51 (x0,())
def ci_Url_path (n:Nat) (x0:TUrl):Option (Bs×Unit):=call Γ n 95 (x0,())
def ci_PathOf (n:Nat) (x0:TUrl):Option (Bs×Unit):=call Γ n 54 (x0,())
def c_strings_Trim (n:Nat) (x0:Bs) (x1:Bs):Option (Bs×Unit):=call Γ n 57 (x0,x1,())
def c_stringslite_TrimPrefix (n:Nat) (x0:Bs) (x1:Bs):Option (Bs×Unit):=call Γ n 175 (x0,x1,())
def c_strings_TrimPrefix (n:Nat) (x0:Bs) (x1:Bs):Option (Bs×Unit):=call Γ n 126 (x0,x1,())
def c_strconv_Atoi (n:Nat) (x0:Bs):Option (Int×Bool×Unit):=call Γ n 128 (x0,())
def ci_Cookie_set (n:Nat) (x0:TCookie) (x1:Bs) (x2:Bs) (x3:Int):Option (TCookie×Unit):=call Γ n 58 (x0,x1,x2,x3,())
def c_stringslite_HasSuffix (n:Nat) (x0:Bs) (x1:Bs):Option (Bool×Unit):=call Γ n 180 (x0,x1,())
def c_strings_HasSuffix (n:Nat) (x0:Bs) (x1:Bs):Option (Bool×Unit):=call Γ n 132 (x0,x1,())
def ci_DomainIn (n:Nat) (x0:Bs) (x1:Bs):Option (Bool×Unit):=call Γ n 61 (x0,x1,())
def ci_CookieGet (n:Nat) (x0:TUrl) (x1:Bs) (x2:Int):Option (TCookie×Int×Unit):=call Γ n 16 (x0,x1,x2,())
def ci_clone_Cookie (n:Nat) (x0:List TCookie):Option ((List TCookie)×Unit):=call Γ n 48 (x0,())
def ci_Cookie_expired (n:Nat) (x0:TCookie) (x1:Int):Option (Bool×Unit):=call Γ n 43 (x0,x1,())
def ci_JarPut_1 (n:Nat) (x0:TCookie) (x1:Int):Option (Bool×Unit):=call Γ n 68 (x0,x1,())
def ci_JarPut (n:Nat) (x0:List TCookie) (x1:TCookie) (x2:Int):Option ((List TCookie)×Unit):=call Γ n 17 (x0,x1,x2,())
def ci_JarSet (n:Nat) (x0:List TCookie) (x1:TUrl) (x2:Bs) (x3:Int):Option ((List TCookie)×Int×Unit):=call Γ n 14 (x0,x1,x2,x3,())
def cl_eqCookie (n:Nat) (x0:TCookie) (x1:TCookie):Option (Bool×Unit):=call Γ n 82 (x0,x1,())
def cl_eqCookieS (n:Nat) (x0:List TCookie) (x1:List TCookie):Option (Bool×Unit):=call Γ n 26 (x0,x1,())
def cl_eqHost (n:Nat) (x0:THost) (x1:THost):Option (Bool×Unit):=call Γ n 83 (x0,x1,())
def cl_eqStringS (n:Nat) (x0:List Bs) (x1:List Bs):Option (Bool×Unit):=call Γ n 84 (x0,x1,())
def cl_eqUrl (n:Nat) (x0:TUrl) (x1:TUrl):Option (Bool×Unit):=call Γ n 27 (x0,x1,())
def cl_markText (n:Nat) (x0:Int):Option (Bs×Unit):=call Γ n 85 (x0,())
def cl_markCookieS (n:Nat) (x0:List TCookie) (x1:Int):Option (Int×(List TCookie)×Unit):=call Γ n 28 (x0,x1,())
def cl_markStringS (n:Nat) (x0:List Bs) (x1:Int):Option (Int×(List Bs)×Unit):=call Γ n 86 (x0,x1,())
def cl_markUrl (n:Nat) (x0:TUrl) (x1:Int):Option (Int×(List Bs)×Unit):=call Γ n 29 (x0,x1,())
def cl_heldCookieS (n:Nat) (x0:List TCookie) (x1:Int):Option (Int×Unit):=call Γ n 30 (x0,x1,())
def cl_FnExactJarSet (n:Nat) (x0:List TCookie) (x1:TUrl) (x2:Bs) (x3:Int):Option (Bool×Unit):=call Γ n 6 (x0,x1,x2,x3,())
end
end Go.VM.T
