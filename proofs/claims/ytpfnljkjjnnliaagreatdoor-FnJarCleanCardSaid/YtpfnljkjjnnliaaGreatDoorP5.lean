/- Functions of the library and of the program that are walked by hand. -/
import Derived.Shelf.Strings.Builder1
import Derived.Shelf.Strings.Builder2
import Derived.Shelf.Strings.OnBuilder
import Derived.Shelf.Strings.Trim
import Derived.Shelf.Small.Utf8
import Derived.Shelf.Small.Strs
import Derived.Shelf.Small.Wraps
import Derived.Shelf.Strings.BuilderF
import Derived.Shelf.Strings.BuilderK
import Derived.Shelf.Utf8.RuneCount
import Derived.Shelf.Strconv.Atoi
import Derived.Shelf.Strconv.Itoa0
import Derived.Shelf.Strconv.Itoa1
import Derived.Shelf.LaysM
import Derived.Shelf.Strconv.Itoa2
import Derived.Shelf.Strconv.Itoa3
import Derived.Shelf.Strconv.AtoiErrFast
import Derived.Shelf.Strconv.ParseIntEmpty
import Derived.Shelf.Strconv.AtoiFail
import Derived.Shelf.Strconv.Clone
import Derived.Shelf.Strconv.SyntaxError
import Derived.Shelf.LaysC
import Derived.Shelf.Strconv.ToError
import Derived.Shelf.Strconv.Lower
import Derived.Shelf.Strconv.ParseUint10
import Derived.Shelf.Strconv.ParseUint10Empty
import Derived.Shelf.Strconv.ParseUint10Any
import Derived.Shelf.Strconv.ParseInt10
import Derived.Shelf.Strconv.AtoiLong
import Derived.Shelf.Strconv.AtoiInnerAll
import Derived.Shelf.Strconv.RangeError
import Derived.Shelf.Strconv.ToErrorRange
import Derived.Shelf.Strconv.AtoiAll
import Derived.Shelf.Strings.Search1
import Derived.Shelf.Strings.Search2
import Derived.Shelf.Strings.Search3
import Derived.Shelf.Strings.Cut
import Derived.Shelf.Strings.Count
import Derived.Shelf.Strings.Shaped
import Derived.Shelf.Strings.LastIndex
import Derived.Shelf.Strings.Prefix
import Derived.Shelf.Strings.Split
import Derived.Shelf.Strings.Replace
import Derived.Shelf.Strings.SplitShaped
import Derived.Shelf.Unicode.Decode
import Derived.Shelf.Strings.Runes
import Derived.Shelf.Strings.RuneCount
import Derived.Shelf.Strings.IndexAny
import Derived.Shelf.Strings.AsciiSet
import Derived.Shelf.Strings.IndexAnyAll
import Derived.Shelf.Strings.Explode
import Derived.Shelf.Unicode.DecodeSlow
import Derived.Shelf.Unicode.DecodeAny
import Derived.Shelf.Unicode.DecodeLast
import Derived.Shelf.Slices.Turned
import Derived.Shelf.Slices.Equal
import Derived.Ground.Names2Prog
import Derived.Shelf.Slices.Clone
import Derived.Shelf.Slices.SearchI
import Derived.Shelf.Slices.Empties2
import Derived.Ground.SlgnProg
import Derived.Shelf.SlicesE.Clone
import Derived.Test.YtpfnljkjjnnliaaGreatDoorProg
import Derived.Lib.SplitLaws
import Derived.Below
import Derived.KernelRfl
import Derived.Laws.Strings
import Derived.Lib.LaidTab
import Derived.Lib.LaidU8
import Derived.Lib.ItoaNum
import Derived.Lib.AppendIntMem
import Derived.LaidLaws
import Derived.Test.YtpfnljkjjnnliaaGreatDoorP4
import Derived.Deep.Draws
import Derived.Deep.AppendLies
import Derived.Maps.AppendAt
import Derived.OwnWalk
import Derived.Laws.BytesArg
import Derived.Laws.MakeOwn
import Derived.Laws.OwnMore
import Derived.Deep.OwnRows
import Derived.Tactics
import Derived.Lib.ConvBytes
import Derived.Laws.Slices
import Derived.WalkKit
import Derived.RowKit3
import Derived.Deep.LoopGhost
import Derived.Deep.QuietTactic
import Derived.BigQuiet
import Derived.WideLaws
import Derived.Deep.DeepCutAuto
import Derived.Deep.CutBlock
import Derived.Deep.RegionHeld3
import Derived.Laws.Rows
import Derived.Lib.AppendStr
import Derived.ArgAppend
import Derived.Laws.IdiomCopy
import Derived.OrdersHeld
import Derived.Laws.BitsLemmas
import Derived.RowKit
import Derived.Test.YtpfnljkjjnnliaaGreatDoorP3
import Derived.Laws.Runes
import Derived.Laws.RangeAny
import Derived.Lib.OthersKept
local macro "bo%" : term => `(by omega)
set_option linter.unusedVariables false
set_option linter.unusedSimpArgs false
set_option linter.unusedVariables false
namespace Go.Proofs
open Go.Shelf Go.RowKit
def Tryz.lays156_ren:Go.Shelf.Ren:=⟨fun | 156=>115 | 165=>163 | 166=>164 | 169=>165 | 240=>209 | 241=>210 | 276=>247 | 277=>248 | n=>n,fun | 31=>34 | 9=>9 | 3=>3 | 4=>4 | 0=>0 | 20=>20 | 72=>146 | 76=>133 | 70=>144 | 37=>22 | 75=>132 | 127=>166 | 164=>191 | 5=>5 | 80=>106 | n=>n,fun | n=>n⟩
theorem Tryz.lays156:Go.Proofs.Lays.n156 Tryz.prog Tryz.lays156_ren:={
  mixed:=by kernel_rfl
  f156:=Tryz.func115.trans (congrArg some (by kernel_rfl))
  f165:=Tryz.func163.trans (congrArg some (by kernel_rfl))
  f166:=Tryz.func164.trans (congrArg some (by kernel_rfl))
  f169:=Tryz.func165.trans (congrArg some (by kernel_rfl))
  f240:=Tryz.func209.trans (congrArg some (by kernel_rfl))
  f241:=Tryz.func210.trans (congrArg some (by kernel_rfl))
  f276:=Tryz.func247.trans (congrArg some (by kernel_rfl))
  f277:=Tryz.func248.trans (congrArg some (by kernel_rfl))
  t0:=Tryz.underlying0
  a0:=Tryz.isAgg0
  z0:=Tryz.sizeOf0
  v0:=Tryz.zeroValue0
  t3:=Tryz.underlying3
  a3:=Tryz.isAgg3
  z3:=Tryz.sizeOf3
  v3:=Tryz.zeroValue3
  t4:=Tryz.underlying4
  a4:=Tryz.isAgg4
  z4:=Tryz.sizeOf4
  v4:=Tryz.zeroValue4
  t9:=Tryz.underlying9
  a9:=Tryz.isAgg9
  z9:=Tryz.sizeOf9
  v9:=Tryz.zeroValue9
  t20:=Tryz.underlying20
  a20:=Tryz.isAgg20
  z20:=Tryz.sizeOf20
  v20:=Tryz.zeroValue20
  t31:=Tryz.underlying34
  a31:=Tryz.isAgg34
  z31:=Tryz.sizeOf34
  v31:=Tryz.zeroValue34
  t37:=Tryz.underlying22
  a37:=Tryz.isAgg22
  z37:=Tryz.sizeOf22
  v37:=Tryz.zeroValue22
  t70:=Tryz.underlying144
  a70:=Tryz.isAgg144
  z70:=Tryz.sizeOf144
  v70:=Tryz.zeroValue144
  t72:=Tryz.underlying146
  a72:=Tryz.isAgg146
  z72:=Tryz.sizeOf146
  v72:=Tryz.zeroValue146
  t75:=Tryz.underlying132
  a75:=Tryz.isAgg132
  z75:=Tryz.sizeOf132
  v75:=Tryz.zeroValue132
  t76:=Tryz.underlying133
  a76:=Tryz.isAgg133
  z76:=Tryz.sizeOf133
  v76:=Tryz.zeroValue133
  t127:=Tryz.underlying166
  a127:=Tryz.isAgg166
  z127:=Tryz.sizeOf166
  v127:=Tryz.zeroValue166
  t164:=Tryz.underlying191
  a164:=Tryz.isAgg191
  z164:=Tryz.sizeOf191
  v164:=Tryz.zeroValue191 }
theorem Tryz.Builder_Extra_156:Builder.Extra Tryz.prog Tryz.lays156_ren:={
  sizeBuilder:=by kernel_rfl
  liesBuilder:=by kernel_rfl
  t5:=Tryz.underlying5
  a5:=Tryz.isAgg5
  z5:=Tryz.sizeOf5
  v5:=Tryz.zeroValue5
  infoByte:=by kernel_rfl
  cellsByte:=by kernel_rfl
  sizeByte:=by kernel_rfl
  neB5:=by decide }
open Go.RowKit in
theorem Tryz.strings_Join_none (a:Option Addr) (c:Nat) (sep:ByteArray) (w:World) :
    Calls Tryz.prog 115 #[.slice a 0 c,.string sep] w fun e w'=>e=.returned (.string ⟨#[]⟩)∧w'=w:=Any.strings_Join_none Tryz.lays156 Tryz.Builder_Extra_156 a c sep w
open Go.RowKit in
theorem Tryz.strings_Join (bk o c:Nat) (xs:List ByteArray) (sep:ByteArray) (w:World) (hcells:∀(j:Nat) x,xs[j]? = some x→w.cell? ⟨bk,o+j,none⟩=some (.string x)) (hbk:bk<w.heap.size) (hN:xs.length≤140737488355328) (hcap:xs.length≤c) (hlen:(Lib.join (xs.map (·.data.toList)) sep.data.toList).length≤140737488355328) :
    Calls Tryz.prog 115 #[.slice (some ⟨bk,o,none⟩) xs.length c,.string sep] w fun e w'=>e=.returned (.string ⟨(Lib.join (xs.map (·.data.toList)) sep.data.toList).toArray⟩)∧Below w.heap.size w w':=Any.strings_Join Tryz.lays156 Tryz.Builder_Extra_156 bk o c xs sep w hcells hbk hN hcap hlen
def Tryz.lays137_ren:Go.Shelf.Ren:=⟨fun | 137=>130 | 217=>179 | 266=>224 | n=>n,fun | 9=>9 | 5=>5 | 3=>3 | n=>n,fun | n=>n⟩
theorem Tryz.lays137:Go.Proofs.Lays.n137 Tryz.prog Tryz.lays137_ren:={
  mixed:=by kernel_rfl
  f137:=Tryz.func130.trans (congrArg some (by kernel_rfl))
  f217:=Tryz.func179.trans (congrArg some (by kernel_rfl))
  f266:=Tryz.func224.trans (congrArg some (by kernel_rfl))
  t3:=Tryz.underlying3
  a3:=Tryz.isAgg3
  z3:=Tryz.sizeOf3
  v3:=Tryz.zeroValue3
  t5:=Tryz.underlying5
  a5:=Tryz.isAgg5
  z5:=Tryz.sizeOf5
  v5:=Tryz.zeroValue5
  t9:=Tryz.underlying9
  a9:=Tryz.isAgg9
  z9:=Tryz.sizeOf9
  v9:=Tryz.zeroValue9 }
open Go.RowKit in
theorem Tryz.strings_IndexByte (s:ByteArray) (c:Int) (w:World) :
    Calls Tryz.prog 130 #[.string s,.int .u8 c] w fun e w'=>e=.returned (.int .i64 (Lib.indexByte s.data.toList c.toNat.toUInt8))∧w'=w:=Any.strings_IndexByte Tryz.lays137 s c w
def Tryz.laysM171_ren:Go.Shelf.Ren:=⟨fun | 171=>114 | 243=>162 | 246=>208 | 283=>243 | 284=>244 | 285=>245 | 286=>246 | 129=>266 | 317=>265 | 318=>267 | 319=>268 | 320=>269 | 337=>279 | 338=>280 | n=>n,fun | 3=>3 | 9=>9 | 2=>2 | 4=>4 | 171=>185 | 0=>0 | 53=>186 | 37=>22 | 5=>5 | 173=>189 | 212=>211 | 51=>194 | 20=>20 | 213=>212 | 46=>167 | 232=>221 | 233=>222 | n=>n,fun | 17=>6 | 18=>7 | 19=>8 | n=>n⟩
theorem Tryz.laysM171:Go.Proofs.LaysM.n171 Tryz.prog Tryz.laysM171_ren:={
  mixed:=by kernel_rfl
  f129:=Tryz.func266.trans (congrArg some (by kernel_rfl))
  f171:=Tryz.func114.trans (congrArg some (by kernel_rfl))
  f243:=Tryz.func162.trans (congrArg some (by kernel_rfl))
  f246:=Tryz.func208.trans (congrArg some (by kernel_rfl))
  f283:=Tryz.func243.trans (congrArg some (by kernel_rfl))
  f284:=Tryz.func244.trans (congrArg some (by kernel_rfl))
  f285:=Tryz.func245.trans (congrArg some (by kernel_rfl))
  f286:=Tryz.func246.trans (congrArg some (by kernel_rfl))
  f317:=Tryz.func265.trans (congrArg some (by kernel_rfl))
  f318:=Tryz.func267.trans (congrArg some (by kernel_rfl))
  f319:=Tryz.func268.trans (congrArg some (by kernel_rfl))
  f320:=Tryz.func269.trans (congrArg some (by kernel_rfl))
  f337:=Tryz.func279.trans (congrArg some (by kernel_rfl))
  f338:=Tryz.func280.trans (congrArg some (by kernel_rfl))
  t0:=Tryz.underlying0
  a0:=Tryz.isAgg0
  z0:=Tryz.sizeOf0
  v0:=Tryz.zeroValue0
  t2:=Tryz.underlying2
  a2:=Tryz.isAgg2
  z2:=Tryz.sizeOf2
  v2:=Tryz.zeroValue2
  t3:=Tryz.underlying3
  a3:=Tryz.isAgg3
  z3:=Tryz.sizeOf3
  v3:=Tryz.zeroValue3
  t4:=Tryz.underlying4
  a4:=Tryz.isAgg4
  z4:=Tryz.sizeOf4
  v4:=Tryz.zeroValue4
  t5:=Tryz.underlying5
  a5:=Tryz.isAgg5
  z5:=Tryz.sizeOf5
  v5:=Tryz.zeroValue5
  t9:=Tryz.underlying9
  a9:=Tryz.isAgg9
  z9:=Tryz.sizeOf9
  v9:=Tryz.zeroValue9
  t20:=Tryz.underlying20
  a20:=Tryz.isAgg20
  z20:=Tryz.sizeOf20
  v20:=Tryz.zeroValue20
  t37:=Tryz.underlying22
  a37:=Tryz.isAgg22
  z37:=Tryz.sizeOf22
  v37:=Tryz.zeroValue22
  t46:=Tryz.underlying167
  a46:=Tryz.isAgg167
  z46:=Tryz.sizeOf167
  v46:=Tryz.zeroValue167
  t51:=Tryz.underlying194
  a51:=Tryz.isAgg194
  z51:=Tryz.sizeOf194
  v51:=Tryz.zeroValue194
  t53:=Tryz.underlying186
  a53:=Tryz.isAgg186
  z53:=Tryz.sizeOf186
  v53:=Tryz.zeroValue186
  t171:=Tryz.underlying185
  a171:=Tryz.isAgg185
  z171:=Tryz.sizeOf185
  v171:=Tryz.zeroValue185
  t173:=Tryz.underlying189
  a173:=Tryz.isAgg189
  z173:=Tryz.sizeOf189
  v173:=Tryz.zeroValue189
  t212:=Tryz.underlying211
  a212:=Tryz.isAgg211
  z212:=Tryz.sizeOf211
  v212:=Tryz.zeroValue211
  t213:=Tryz.underlying212
  a213:=Tryz.isAgg212
  z213:=Tryz.sizeOf212
  t232:=Tryz.underlying221
  a232:=Tryz.isAgg221
  z232:=Tryz.sizeOf221
  v232:=Tryz.zeroValue221
  t233:=Tryz.underlying222
  a233:=Tryz.isAgg222
  z233:=Tryz.sizeOf222
  v233:=Tryz.zeroValue222
  g17:=by kernel_rfl
  g18:=by kernel_rfl
  g19:=by kernel_rfl
  i0:=by kernel_rfl
  i2:=by kernel_rfl
  i3:=by kernel_rfl
  i4:=by kernel_rfl
  i5:=by kernel_rfl
  i9:=by kernel_rfl
  i20:=by kernel_rfl
  i37:=by kernel_rfl
  i46:=by kernel_rfl
  i51:=by kernel_rfl
  i53:=by kernel_rfl
  i171:=by kernel_rfl
  i173:=by kernel_rfl
  i212:=by kernel_rfl
  i232:=by kernel_rfl
  i233:=by kernel_rfl
  m17:=by kernel_rfl
  m18:=by kernel_rfl
  m19:=by kernel_rfl }
open Go.RowKit Go.Sort Go.Lib in
theorem Tryz.strconv_Itoa (n:Int) (h0:-9223372036854775808≤n) (h1:n≤9223372036854775807) (w:World) (htab:Lib.TabIs Tryz.prog w "internal/strconv.uint64pow10" .u64 Lib.pow10Tab) :
    Calls Tryz.prog 114 #[.int .i64 n] w fun e w'=>e=.returned (.string ⟨(Lib.itoa n).toArray⟩)∧∃k os,w'=grow (w.drewN k) os:=Any.strconv_Itoa Tryz.laysM171 n h0 h1 w htab
def Tryz.lays146_ren:Go.Shelf.Ren:=⟨fun | 146=>55 | 221=>117 | 268=>167 | 138=>168 | 143=>169 | 195=>211 | 197=>172 | 218=>212 | 219=>170 | 260=>216 | 217=>179 | 225=>213 | 224=>214 | 267=>215 | 266=>224 | 314=>249 | n=>n,fun | 9=>9 | 31=>34 | 3=>3 | 4=>4 | 0=>0 | 105=>150 | 21=>21 | 5=>5 | 46=>167 | 119=>197 | 139=>200 | 138=>199 | 146=>195 | 51=>194 | n=>n,fun | 1=>0 | 3=>2 | 4=>3 | n=>n⟩
theorem Tryz.lays146:Go.Proofs.Lays.n146 Tryz.prog Tryz.lays146_ren:={
  mixed:=by kernel_rfl
  f138:=Tryz.func168.trans (congrArg some (by kernel_rfl))
  f143:=Tryz.func169.trans (congrArg some (by kernel_rfl))
  f146:=Tryz.func55.trans (congrArg some (by kernel_rfl))
  f195:=Tryz.func211.trans (congrArg some (by kernel_rfl))
  f197:=Tryz.func172.trans (congrArg some (by kernel_rfl))
  f217:=Tryz.func179.trans (congrArg some (by kernel_rfl))
  f218:=Tryz.func212.trans (congrArg some (by kernel_rfl))
  f219:=Tryz.func170.trans (congrArg some (by kernel_rfl))
  f221:=Tryz.func117.trans (congrArg some (by kernel_rfl))
  f224:=Tryz.func214.trans (congrArg some (by kernel_rfl))
  f225:=Tryz.func213.trans (congrArg some (by kernel_rfl))
  f260:=Tryz.func216.trans (congrArg some (by kernel_rfl))
  f266:=Tryz.func224.trans (congrArg some (by kernel_rfl))
  f267:=Tryz.func215.trans (congrArg some (by kernel_rfl))
  f268:=Tryz.func167.trans (congrArg some (by kernel_rfl))
  f314:=Tryz.func249.trans (congrArg some (by kernel_rfl))
  t0:=Tryz.underlying0
  a0:=Tryz.isAgg0
  z0:=Tryz.sizeOf0
  v0:=Tryz.zeroValue0
  t3:=Tryz.underlying3
  a3:=Tryz.isAgg3
  z3:=Tryz.sizeOf3
  v3:=Tryz.zeroValue3
  t4:=Tryz.underlying4
  a4:=Tryz.isAgg4
  z4:=Tryz.sizeOf4
  v4:=Tryz.zeroValue4
  t5:=Tryz.underlying5
  a5:=Tryz.isAgg5
  z5:=Tryz.sizeOf5
  v5:=Tryz.zeroValue5
  t9:=Tryz.underlying9
  a9:=Tryz.isAgg9
  z9:=Tryz.sizeOf9
  v9:=Tryz.zeroValue9
  t21:=Tryz.underlying21
  a21:=Tryz.isAgg21
  z21:=Tryz.sizeOf21
  v21:=Tryz.zeroValue21
  t31:=Tryz.underlying34
  a31:=Tryz.isAgg34
  z31:=Tryz.sizeOf34
  v31:=Tryz.zeroValue34
  t46:=Tryz.underlying167
  a46:=Tryz.isAgg167
  z46:=Tryz.sizeOf167
  v46:=Tryz.zeroValue167
  t51:=Tryz.underlying194
  a51:=Tryz.isAgg194
  z51:=Tryz.sizeOf194
  v51:=Tryz.zeroValue194
  t105:=Tryz.underlying150
  a105:=Tryz.isAgg150
  z105:=Tryz.sizeOf150
  v105:=Tryz.zeroValue150
  t119:=Tryz.underlying197
  a119:=Tryz.isAgg197
  z119:=Tryz.sizeOf197
  t138:=Tryz.underlying199
  a138:=Tryz.isAgg199
  z138:=Tryz.sizeOf199
  v138:=Tryz.zeroValue199
  t139:=Tryz.underlying200
  a139:=Tryz.isAgg200
  z139:=Tryz.sizeOf200
  v139:=Tryz.zeroValue200
  t146:=Tryz.underlying195
  a146:=Tryz.isAgg195
  z146:=Tryz.sizeOf195
  v146:=Tryz.zeroValue195
  g1:=by kernel_rfl
  g3:=by kernel_rfl
  g4:=by kernel_rfl }
open Go.RowKit Go.Lib in
theorem Tryz.strings_Split (s sep:ByteArray) (m:Int) (w:World) (hs:s.size<4294967281) (hm:w.cell? ⟨0,0,none⟩=some (.int .i64 m)) (h1:1≤sep.size) :
    Calls Tryz.prog 55 #[.string s,.string sep] w fun e w' =>
      e=.returned (.slice (some ⟨w.heap.size,0,none⟩) (Lib.countB s sep+1) (Lib.countB s sep+1))∧w'=w.alloc (.cells ((Lib.splitB sep 0 (Lib.countB s sep) s).map Value.string).toArray 9):=Any.strings_Split Tryz.lays146 (by kernel_rfl) s sep m w hs hm h1
end Go.Proofs
namespace Go.Proofs.YtpfnljkjjnnliaaGreatDoorQ
open Go.VM Go.RowKit
structure Hid (p:Prop):Prop where
 out:p
theorem cut_clip {P:Program} (t e:TypeId) (kh km:IntKind) {i:TypeInfo} (ht:P.underlying t=some (.slice e)) (hi:P.info? e=some i) (A:Option Addr) (n c:Nat) (hc:n≤c) :
  ∀W:World,(Instr.slice t (.slice A n c) none (some (.int kh n)) (some (.int km n))).run P W=.ok (.slice A n n) W:=by
 intro W
 have hel:P.elem t=e:=by simp[Program.elem,ht]
 have hu:P.underlying t=some (.slice (P.elem t)):=by rw[hel];exact ht
 have ha:(A.map fun x=>x.add 0)=A:=by cases A <;> simp[Addr.add]
 rw[run_slice_hm W t A n c hu kh km n n bo% (Int.le_refl _) bo%,hel]
 simp[sizeOf,typeInfo,hi,sliced,Result.andThen,ha]
theorem entersOf {f:FuncId} {fn:Func} {c:Code} (hf:Tryz.prog.funcs[f]? = some fn) (hname:(fn.name == "runtime.NumGoroutine")=false) (hb:fn.body=some c):Enters Tryz.prog f:=Go.Proofs.enters_of hf hname hb
end Go.Proofs.YtpfnljkjjnnliaaGreatDoorQ
set_option maxRecDepth 100000
namespace Go.VM.T0
open Go.Proofs Go.VM
noncomputable def tys:List (Nat×Ty):=[(2,(.int .i64)),
 (3,(.int .i64)),
 (4,.bool),
 (5,(.int .u8)),
 (6,(.int .u8)),
 (7,(.pair (.int .i64) (.pair (.int .i64) (.pair .bool (.pair (.int .u8) .unit))))),
 (8,(.pair (.int .i64) (.pair (.int .i64) (.pair .bool (.pair (.int .u8) .unit))))),
 (9,.str),
 (10,.str),
 (11,.str),
 (12,(.int .u64)),
 (13,(.pair .str (.pair (.int .u64) .unit))),
 (14,(.pair .str (.pair (.int .u64) .unit))),
 (21,(.int .i32)),
 (22,(.lst (.int .u8))),
 (23,(.lst (.pair .str (.pair .str (.pair .str (.pair .bool (.pair .str (.pair (.int .i64) (.pair .bool (.pair (.int .i64) (.pair (.int .i64) .unit))))))))))),
 (29,(.pair .str (.pair .str (.pair .str (.pair .bool (.pair .str (.pair (.int .i64) (.pair .bool (.pair (.int .i64) (.pair (.int .i64) .unit)))))))))),
 (30,(.pair .str (.pair .str (.pair .str (.pair .bool (.pair .str (.pair (.int .i64) (.pair .bool (.pair (.int .i64) (.pair (.int .i64) .unit)))))))))),
 (32,(.pair (.int .i64) (.pair .str (.pair (.int .i64) .unit)))),
 (33,(.pair (.int .i64) (.pair .str (.pair (.int .i64) .unit)))),
 (34,(.lst .str)),
 (35,(.pair .str (.pair .str (.pair .str (.pair (.pair (.int .i64) (.pair .str (.pair (.int .i64) .unit))) (.pair (.int .i64) (.pair (.lst .str) (.pair .str (.pair .bool (.pair .str (.pair .bool (.pair .str .unit)))))))))))),
 (36,(.pair .str (.pair .str (.pair .str (.pair (.pair (.int .i64) (.pair .str (.pair (.int .i64) .unit))) (.pair (.int .i64) (.pair (.lst .str) (.pair .str (.pair .bool (.pair .str (.pair .bool (.pair .str .unit)))))))))))),
 (47,(.lst (.pair .str (.pair .str (.pair .str (.pair .bool (.pair .str (.pair (.int .i64) (.pair .bool (.pair (.int .i64) (.pair (.int .i64) .unit))))))))))),
 (48,(.pair (.int .i64) (.pair .str (.pair (.int .i64) .unit)))),
 (49,(.pair .str (.pair .str (.pair .str (.pair (.pair (.int .i64) (.pair .str (.pair (.int .i64) .unit))) (.pair (.int .i64) (.pair (.lst .str) (.pair .str (.pair .bool (.pair .str (.pair .bool (.pair .str .unit)))))))))))),
 (50,(.pair .str (.pair .str (.pair .str (.pair (.pair (.int .i64) (.pair .str (.pair (.int .i64) .unit))) (.pair (.int .i64) (.pair (.lst .str) (.pair .str (.pair .bool (.pair .str (.pair .bool (.pair .str .unit)))))))))))),
 (93,(.pair .str (.pair .str (.pair .str (.pair .bool (.pair .str (.pair (.int .i64) (.pair .bool (.pair (.int .i64) (.pair (.int .i64) .unit)))))))))),
 (107,(.pair (.lst (.int .u8)) (.pair (.int .i64) .unit))),
 (108,(.pair (.lst (.int .u8)) (.pair (.int .i64) .unit))),
 (110,(.lst (.int .i64))),
 (131,.err),
 (132,.err),
 (167,(.int .u64)),
 (169,(.int .i64)),
 (186,(.int .u64)),
 (194,(.int .u32)),
 (198,(.pair (.int .u8) (.pair (.int .u8) .unit))),
 (199,(.pair (.int .u8) (.pair (.int .u8) .unit))),
 (204,(.pair .str (.pair .str (.pair .err .unit)))),
 (205,(.pair .str (.pair .str (.pair .err .unit)))),
 (216,(.pair .str .unit)),
 (217,(.pair .str .unit)),
 (229,(.int .u8)),
 (230,(.int .u8)),
 (232,(.int .i32)),
 (233,(.int .i32))]
noncomputable def eqs:List (Nat×Ty):=[(30,(.pair .str (.pair .str (.pair .str (.pair .bool (.pair .str (.pair (.int .i64) (.pair .bool (.pair (.int .i64) (.pair (.int .i64) .unit)))))))))),(33,(.pair (.int .i64) (.pair .str (.pair (.int .i64) .unit))))]
noncomputable def e237:Ent:=⟨⟨[((.int .u8),0)],[(.str,1)]⟩,none,Tryz.f237,[]⟩
noncomputable def e242:Ent:=⟨⟨[((.int .u8),0)],[((.int .i64),1)]⟩,none,Tryz.f242,[]⟩
noncomputable def e52:Ent:=⟨⟨[((.int .i64),0),((.int .i64),0),((.int .i64),0)],[(.bool,1)]⟩,none,Tryz.f52,[]⟩
noncomputable def Γ:Ctx:={ tys:=tys,globs:=[],ents:=[(237,e237),(242,e242),(52,e52)],eqs:=eqs }
noncomputable def ci_hex (n:Nat) (x0:Int):Option (Int×Unit):=call Γ n 242 (x0,())
noncomputable def ci_in (n:Nat) (x0:Int) (x1:Int) (x2:Int):Option (Bool×Unit):=call Γ n 52 (x0,x1,x2,())
end Go.VM.T0
set_option maxRecDepth 100000
set_option linter.unusedVariables false
namespace Go.VM.T0
open Go.Proofs Go.VM
noncomputable def mi_hex (n:Nat) (x0:Int):Option (Int×Unit):=bif (decide ((48:Int)≤x0)) then (bif (decide (x0≤(57:Int))) then (some ((IntKind.i64.wrap (IntKind.u8.wrap (x0-(48:Int)))),())) else (bif (decide ((97:Int)≤x0)) then (bif (decide (x0≤(102:Int))) then (some ((IntKind.i64.wrap ((IntKind.i64.wrap (IntKind.u8.wrap (x0-(97:Int))))+(10:Int))),())) else (bif (decide ((65:Int)≤x0)) then (bif (decide (x0≤(70:Int))) then (some ((IntKind.i64.wrap ((IntKind.i64.wrap (IntKind.u8.wrap (x0-(65:Int))))+(10:Int))),())) else (some ((-1:Int),()))) else (some ((-1:Int),())))) else (bif (decide ((65:Int)≤x0)) then (bif (decide (x0≤(70:Int))) then (some ((IntKind.i64.wrap ((IntKind.i64.wrap (IntKind.u8.wrap (x0-(65:Int))))+(10:Int))),())) else (some ((-1:Int),()))) else (some ((-1:Int),()))))) else (bif (decide ((97:Int)≤x0)) then (bif (decide (x0≤(102:Int))) then (some ((IntKind.i64.wrap ((IntKind.i64.wrap (IntKind.u8.wrap (x0-(97:Int))))+(10:Int))),())) else (bif (decide ((65:Int)≤x0)) then (bif (decide (x0≤(70:Int))) then (some ((IntKind.i64.wrap ((IntKind.i64.wrap (IntKind.u8.wrap (x0-(65:Int))))+(10:Int))),())) else (some ((-1:Int),()))) else (some ((-1:Int),())))) else (bif (decide ((65:Int)≤x0)) then (bif (decide (x0≤(70:Int))) then (some ((IntKind.i64.wrap ((IntKind.i64.wrap (IntKind.u8.wrap (x0-(65:Int))))+(10:Int))),())) else (some ((-1:Int),()))) else (some ((-1:Int),()))))
theorem ei_hex (n:Nat) (x0:Int):ci_hex (n+1) x0=mi_hex n x0:=by kernel_rfl
noncomputable def mi_in (n:Nat) (x0:Int) (x1:Int) (x2:Int):Option (Bool×Unit):=bif (decide (x1≤x0)) then (some ((decide (x0≤x2)),())) else (some (false,()))
theorem ei_in (n:Nat) (x0:Int) (x1:Int) (x2:Int):ci_in (n+1) x0 x1 x2=mi_in n x0 x1 x2:=by kernel_rfl
end Go.VM.T0
set_option maxRecDepth 100000
namespace Go.VM.T0
open Go.Proofs Go.VM
theorem tyOk_:TyOk Tryz.prog Γ.tys:=tyOk (by kernel_rfl)
theorem eqsOk_:EqsOk Tryz.prog Γ:=eqsOk (by kernel_rfl)
theorem k237:EntOk Tryz.prog Γ 237 e237:=EntOk.fun Tryz.func237 (by kernel_rfl)
theorem k242:EntOk Tryz.prog Γ 242 e242:=EntOk.fun Tryz.func242 (by kernel_rfl)
theorem k52:EntOk Tryz.prog Γ 52 e52:=EntOk.fun Tryz.func52 (by kernel_rfl)
theorem entsOk_  : EntsOk Tryz.prog Γ:=show EntsOn Tryz.prog Γ Γ.ents from .cons k237 (.cons k242 (.cons k52 (.nil)))
end Go.VM.T0
namespace Go.Proofs.YtpfnljkjjnnliaaGreatDoorQ
open Go.VM Go.RowKit
theorem mixed:Tryz.prog.follows .mixedOrders=true:=by kernel_rfl
def IsBu (B b:Nat) (l:Bs) (w:World):Prop:=Lib.IsBuilderF 146 5 B b (Lib.byteCells l) w
theorem IsBu.fresh {B b:Nat} {w:World} (h:w.heap[b]? = some (.cells #[.pointer none,.slice none 0 0] 146 (0,0))) (hB:B≤b):IsBu B b [] w :=
 .inl ⟨hB,_,h,⟨by simp[Lib.byteCells],.inl ⟨rfl,rfl⟩⟩,by intro h;cases h⟩
theorem IsBu.lt {B b:Nat} {l:Bs} {w:World} (h:IsBu B b l w):b<w.heap.size:=h.elim (fun x=>x.lt) (fun x=>x.lt)
theorem IsBu.below {B b:Nat} {l:Bs} {w w':World} (h:IsBu B b l w) (hb:Below w.heap.size w w'):IsBu B b l w':=by
 have same:∀ {k o},w.heap[k]? = some o→w'.heap[k]? = some o:=fun {k o} hk=>(hb.block k (by
  rcases Nat.lt_or_ge k w.heap.size with h | h
  ·exact h
  ·rw[Array.getElem?_eq_none h] at hk;cases hk)).trans hk
 have at_:∀ {p bs},Lib.BuilderAtF 146 5 B b p bs w→Lib.BuilderAtF 146 5 B b p bs w':=by
  rintro p bs ⟨h1,v,h2,h3,h4⟩
  refine ⟨h1,v,same h2,⟨h3.1,?_⟩,h4⟩
  rcases h3.2 with h5 | ⟨g,cap,cur,fz,e1,e2,e3,e4⟩
  ·exact .inl h5
  ·exact .inr ⟨g,cap,cur,fz,e1,e2,same e3,e4⟩
 exact h.elim (fun x=>.inl (at_ x)) (fun x=>.inr (at_ x))
theorem encB_len (any:Bs) (c:UInt8):(encB any c).length≤3:=by unfold encB;split <;> simp
theorem encM_len (any:Bs):∀l:Bs,(encM any l).length≤3*l.length
 | []=>by simp[encM]
 | c :: l=>by
  have:=encM_len any l
  have:=encB_len any c
  simp only[encM,List.flatMap_cons,List.length_append,List.length_cons] at *
  omega
theorem IsBu.drew {B b:Nat} {l:Bs} {w:World} (h:IsBu B b l w):IsBu B b l w.drew:=h.below (Below.refl _ _).drew
theorem decM_pct (a b:UInt8) (r:Bs) (ha:0≤hexM a) (hb:0≤hexM b):decM (37 :: a :: b :: r)=hexB a b :: decM r:=by
 rw[decM];simp[ha,hb]
theorem decM_one (c:UInt8) (l:Bs) (h:¬(c=37∧∃a b r,l=a :: b :: r∧0≤hexM a∧0≤hexM b)):decM (c :: l)=c :: decM l:=by
 by_cases hc:c=37
 ·subst hc
  match l,h with
  | [],_=>rfl
  | [a],_=>rfl
  | a :: b :: r,h =>
   rw[decM,if_neg]
   rintro ⟨h1,h2⟩
   exact h ⟨rfl,a,b,r,rfl,h1,h2⟩
 ·rw[decM]
  intro a b h1 h2
  exact absurd h2 hc
theorem dec_len (l:Bs):(decM l).length≤l.length:=by
 have key:∀n (l:Bs),l.length≤n→(decM l).length≤l.length:=by
  intro n
  induction n with
  | zero=>intro l hl;cases l with
   | nil=>simp[decM]
   | cons c l=>simp at hl
  | succ n ih =>
   intro l hl
   cases l with
   | nil=>simp[decM]
   | cons c l =>
    by_cases h:c=37∧∃a b r,l=a :: b :: r∧0≤hexM a∧0≤hexM b
    ·obtain ⟨rfl,a,b,r,rfl,h1,h2⟩:=h
     rw[decM_pct a b r h1 h2]
     have:=ih r (by simp at hl;omega)
     simp
     omega
    ·rw[decM_one c l h]
     have:=ih l (by simpa using hl)
     simpa using this
 exact key _ l (Nat.le_refl _)
end Go.Proofs.YtpfnljkjjnnliaaGreatDoorQ
namespace Go.Proofs.YtpfnljkjjnnliaaGreatDoorQ
open Go.VM Go.RowKit
variable {Γ:Ctx}
end Go.Proofs.YtpfnljkjjnnliaaGreatDoorQ
namespace Go.Proofs.YtpfnljkjjnnliaaGreatDoorQ
open Go.VM Go.RowKit
end Go.Proofs.YtpfnljkjjnnliaaGreatDoorQ
set_option maxRecDepth 100000
namespace Go.VM.T
open Go.Proofs Go.VM
abbrev UT:Ty:=(.pair .str (.pair .str (.pair .str (.pair (.pair (.int .i64) (.pair .str (.pair (.int .i64) .unit))) (.pair (.int .i64) (.pair (.lst .str) (.pair .str (.pair .bool (.pair .str (.pair .bool (.pair .str .unit)))))))))))
noncomputable section
def tys:List (Nat×Ty):=[(2,(.int .i64)),
 (3,(.int .i64)),
 (4,.bool),
 (5,(.int .u8)),
 (6,(.int .u8)),
 (7,(.pair (.int .i64) (.pair (.int .i64) (.pair .bool (.pair (.int .u8) .unit))))),
 (8,(.pair (.int .i64) (.pair (.int .i64) (.pair .bool (.pair (.int .u8) .unit))))),
 (9,.str),
 (10,.str),
 (11,.str),
 (12,(.int .u64)),
 (13,(.pair .str (.pair (.int .u64) .unit))),
 (14,(.pair .str (.pair (.int .u64) .unit))),
 (21,(.int .i32)),
 (22,(.lst (.int .u8))),
 (23,(.lst (.pair .str (.pair .str (.pair .str (.pair .bool (.pair .str (.pair (.int .i64) (.pair .bool (.pair (.int .i64) (.pair (.int .i64) .unit))))))))))),
 (29,(.pair .str (.pair .str (.pair .str (.pair .bool (.pair .str (.pair (.int .i64) (.pair .bool (.pair (.int .i64) (.pair (.int .i64) .unit)))))))))),
 (30,(.pair .str (.pair .str (.pair .str (.pair .bool (.pair .str (.pair (.int .i64) (.pair .bool (.pair (.int .i64) (.pair (.int .i64) .unit)))))))))),
 (32,(.pair (.int .i64) (.pair .str (.pair (.int .i64) .unit)))),
 (33,(.pair (.int .i64) (.pair .str (.pair (.int .i64) .unit)))),
 (34,(.lst .str)),
 (35,UT),
 (36,UT),
 (47,(.lst (.pair .str (.pair .str (.pair .str (.pair .bool (.pair .str (.pair (.int .i64) (.pair .bool (.pair (.int .i64) (.pair (.int .i64) .unit))))))))))),
 (48,(.pair (.int .i64) (.pair .str (.pair (.int .i64) .unit)))),
 (49,UT),
 (50,UT),
 (93,(.pair .str (.pair .str (.pair .str (.pair .bool (.pair .str (.pair (.int .i64) (.pair .bool (.pair (.int .i64) (.pair (.int .i64) .unit)))))))))),
 (107,(.pair (.lst (.int .u8)) (.pair (.int .i64) .unit))),
 (108,(.pair (.lst (.int .u8)) (.pair (.int .i64) .unit))),
 (110,(.lst (.int .i64))),
 (131,.err),
 (132,.err),
 (167,(.int .u64)),
 (169,(.int .i64)),
 (186,(.int .u64)),
 (194,(.int .u32)),
 (198,(.pair (.int .u8) (.pair (.int .u8) .unit))),
 (199,(.pair (.int .u8) (.pair (.int .u8) .unit))),
 (204,(.pair .str (.pair .str (.pair .err .unit)))),
 (205,(.pair .str (.pair .str (.pair .err .unit)))),
 (216,(.pair .str .unit)),
 (217,(.pair .str .unit)),
 (229,(.int .u8)),
 (230,(.int .u8)),
 (232,(.int .i32)),
 (233,(.int .i32))]
def eqs:List (Nat×Ty):=[(30,(.pair .str (.pair .str (.pair .str (.pair .bool (.pair .str (.pair (.int .i64) (.pair .bool (.pair (.int .i64) (.pair (.int .i64) .unit)))))))))),(33,(.pair (.int .i64) (.pair .str (.pair (.int .i64) .unit))))]
def e35:Ent:=⟨⟨[((.lst (.int .u8)),0)],[((.pair (.lst (.int .u8)) (.pair (.int .i64) .unit)),2)]⟩,none,Tryz.f35,[]⟩
def e38:Ent:=⟨⟨[((.pair (.lst (.int .u8)) (.pair (.int .i64) .unit)),1),((.int .i64),0)],[((.int .i64),1)]⟩,none,Tryz.f38,[]⟩
def e101:Ent:=⟨⟨[((.pair (.lst (.int .u8)) (.pair (.int .i64) .unit)),1),((.lst .str),0)],[(.str,1)]⟩,none,Tryz.f101,[]⟩
def e193:Ent:=⟨⟨[(.str,0)],[(.str,1)]⟩,none,Tryz.f193,[(2,[],[.tmp 0 .str false]),(6,[],[.tmp 0 .str false]),(14,[0],[.tmp 3 (.lst (.int .u8)) true,.tmp 4 (.int .i64) false])]⟩
def e152:Ent:=⟨⟨[(.str,0)],[(.str,1)]⟩,none,Tryz.f152,[(6,[0],[.tmp 3 (.lst (.int .u8)) true,.tmp 4 (.int .i64) false])]⟩
def e192:Ent:=⟨⟨[(.str,0)],[(.str,1),(.str,1),(.bool,1)]⟩,none,Tryz.f192,[(4,[0],[.tmp 5 (.int .i64) false])]⟩
def e196:Ent:=⟨⟨[(.str,0)],[((.int .i64),1)]⟩,none,Tryz.f196,[]⟩
def e231:Ent:=⟨⟨[(.str,0),(.str,0)],[((.int .i64),1)]⟩,none,Tryz.f231,[(4,[0,1],[.tmp 5 (.int .i64) false]),(10,[0,1,5],[.tmp 6 (.int .i64) false])]⟩
def e256:Ent:=⟨⟨[((.int .i64),0)],[(.str,1)]⟩,none,Tryz.f256,[]⟩
def e257:Ent:=⟨⟨[(.str,0),((.int .u8),0)],[(.bool,1)]⟩,none,Tryz.f257,[(4,[0,1],[.tmp 5 (.int .i64) false])]⟩
def e258:Ent:=⟨⟨[((.int .i64),0)],[((.int .u8),1)]⟩,none,Tryz.f258,[]⟩
def e232:Ent:=⟨⟨[((.int .i64),0),(.str,0)],[(.str,1)]⟩,none,Tryz.f232,[(8,[1,6],[.tmp 5 (.lst (.int .u8)) true,.tmp 7 (.int .i64) false])]⟩
def e233:Ent:=⟨⟨[(UT,0),(.str,0)],[(UT,0)]⟩,none,Tryz.f233,[]⟩
def e272:Ent:=⟨⟨[(UT,0),(.str,0)],[(UT,0)]⟩,none,Tryz.f272,[]⟩
def e254:Ent:=⟨⟨[((.int .u8),0)],[((.int .i64),1)]⟩,none,Tryz.f254,[]⟩
def e230:Ent:=⟨⟨[(.str,0)],[(.str,1)]⟩,none,Tryz.f230,[(6,[0],[.tmp 3 (.lst (.int .u8)) true,.tmp 4 (.int .i64) false])]⟩
def e155:Ent:=⟨⟨[(.str,0),((.int .u8),0)],[((.lst .str),1)]⟩,none,Tryz.f155,[(8,[0,1],[.tmp 5 (.lst .str) true,.tmp 6 (.int .i64) false,.tmp 7 (.int .i64) false])]⟩
def e109:Ent:=⟨⟨[(.str,0)],[((.lst .str),1)]⟩,none,Tryz.f109,[]⟩
def e225:Ent:=⟨⟨[(.str,0),((.int .i64),0)],[((.int .i64),1)]⟩,none,Tryz.f225,[(6,[0,1],[.tmp 5 (.int .i64) false,.tmp 6 (.int .i64) false])]⟩
def e184:Ent:=⟨⟨[(.str,0)],[((.int .i64),1)]⟩,none,Tryz.f184,[]⟩
def e183:Ent:=⟨⟨[(.str,0)],[(.bool,1)]⟩,none,Tryz.f183,[(14,[4],[.tmp 5 .bool false,.tmp 6 (.int .i64) false])]⟩
def e75:Ent:=⟨⟨[((.int .i64),0),((.int .i64),0),((.int .i64),0)],[(.bool,1)]⟩,none,Tryz.f75,[]⟩
def e136:Ent:=⟨⟨[(.str,0)],[((.int .i64),1),(.bool,1)]⟩,none,Tryz.f136,[(12,[4],[.tmp 5 (.int .i64) false,.tmp 6 (.int .i64) false]),(24,[4,5,6,7],[.tmp 8 (.int .i64) false,.tmp 9 (.int .i64) false])]⟩
def e182:Ent:=⟨⟨[(.str,0)],[(.bool,1)]⟩,none,Tryz.f182,[(6,[0,3],[.tmp 4 (.int .i64) false]),(16,[0,3,4],[.tmp 5 (.int .i64) false])]⟩
def e190:Ent:=⟨⟨[(.str,0)],[((.pair (.int .i64) (.pair .str (.pair (.int .i64) .unit))),1),(.bool,1)]⟩,none,Tryz.f190,[]⟩
def e273:Ent:=⟨⟨[(.str,0),((.int .i64),0)],[((.int .i64),1)]⟩,none,Tryz.f273,[]⟩
def e259:Ent:=⟨⟨[(UT,0),(.str,0)],[(UT,0),(.bool,1)]⟩,none,Tryz.f259,[(6,[1,2,4],[.tmp 6 (.int .i64) false,.tmp 7 (.int .i64) false])]⟩
def e275:Ent:=⟨⟨[(.str,0)],[((.lst .str),1)]⟩,none,Tryz.f275,[(6,[3],[.tmp 4 (.int .i64) false,.tmp 3 (.lst (.int .u8)) true])]⟩
def e281:Ent:=⟨⟨[(.str,0)],[((.int .i64),1)]⟩,none,Tryz.f281,[]⟩
def e274:Ent:=⟨⟨[((.lst .str),0),((.lst .str),0)],[((.lst .str),1)]⟩,none,Tryz.f274,[(6,[1],[.tmp 5 (.lst .str) true,.tmp 6 (.int .i64) false])]⟩
def e260:Ent:=⟨⟨[(.str,0)],[((.lst .str),1)]⟩,none,Tryz.f260,[]⟩
def e234:Ent:=⟨⟨[(UT,0),(.str,0)],[(UT,0),(.bool,1)]⟩,none,Tryz.f234,[]⟩
def e194:Ent:=⟨⟨[(.str,0),(.str,0)],[(UT,0),(.bool,1)]⟩,none,Tryz.f194,[(12,[4,6],[.tmp 1 .str false])]⟩
def e135:Ent:=⟨⟨[((.pair (.int .i64) (.pair .str (.pair (.int .i64) .unit))),0)],[(.bool,1)]⟩,none,Tryz.f135,[]⟩
def e143:Ent:=⟨⟨[((.int .i64),0)],[(.str,1)]⟩,none,Tryz.f143,[]⟩
def e150:Ent:=⟨⟨[((.int .i64),0)],[(.str,1)]⟩,none,Tryz.f150,[]⟩
def e104:Ent:=⟨⟨[((.pair (.int .i64) (.pair .str (.pair (.int .i64) .unit))),0)],[(.str,1)]⟩,none,Tryz.f104,[]⟩
def e187:Ent:=⟨⟨[((.lst .str),0)],[(.str,1)]⟩,none,Tryz.f187,[(6,[0],[.tmp 3 .str false,.tmp 4 (.int .i64) false])]⟩
def e148:Ent:=⟨⟨[(UT,0)],[(.str,1)]⟩,none,Tryz.f148,[(21,[1],[.tmp 3 .str false]),(27,[1],[.tmp 3 .str false]),(29,[1],[.tmp 3 .str false]),(33,[1],[.tmp 3 .str false])]⟩
def e195:Ent:=⟨⟨[(UT,0)],[(.bool,1)]⟩,none,Tryz.f195,[]⟩
def e147:Ent:=⟨⟨[(.str,0)],[(UT,0),(.bool,1)]⟩,none,Tryz.f147,[]⟩
def e100:Ent:=⟨⟨[((.pair (.lst (.int .u8)) (.pair (.int .i64) .unit)),1)],[(UT,0)]⟩,none,Tryz.f100,[]⟩
def e47:Ent:=⟨⟨[((.pair (.lst (.int .u8)) (.pair (.int .i64) .unit)),1)],[(.str,1)]⟩,none,Tryz.f47,[(6,[0],[.tmp 3 .str false,.tmp 4 (.int .i64) false,.box (pn 0 0) (.pair (.lst (.int .u8)) (.pair (.int .i64) .unit)) false])]⟩
def e97:Ent:=⟨⟨[((.pair (.lst (.int .u8)) (.pair (.int .i64) .unit)),1),((.lst (.int .i64)),0)],[((.int .i64),1)]⟩,none,Tryz.f97,[]⟩
def e149:Ent:=⟨⟨[(UT,0),(UT,0)],[(.bool,1)]⟩,none,Tryz.f149,[(8,[2,3],[.tmp 5 (.int .i64) false])]⟩
def e102:Ent:=⟨⟨[(UT,0)],[(.bool,1)]⟩,none,Tryz.f102,[]⟩
def e103:Ent:=⟨⟨[(.str,0),((.int .u8),0)],[((.lst .str),1)]⟩,none,Tryz.f103,[(8,[0,1],[.tmp 5 (.lst .str) true,.tmp 6 (.int .i64) false,.tmp 7 (.int .i64) false])]⟩
def e140:Ent:=⟨⟨[(UT,0)],[(.str,1)]⟩,none,Tryz.f140,[]⟩
def e105:Ent:=⟨⟨[(UT,0)],[(.str,1)]⟩,none,Tryz.f105,[(10,[3],[.tmp 4 (.int .i64) false])]⟩
def e151:Ent:=⟨⟨[(.str,0)],[(.str,1)]⟩,none,Tryz.f151,[(2,[],[.tmp 0 .str false]),(6,[],[.tmp 0 .str false])]⟩
def e106:Ent:=⟨⟨[(.str,0)],[(.str,1),(.str,1)]⟩,none,Tryz.f106,[(4,[0],[.tmp 4 (.int .i64) false])]⟩
def e153:Ent:=⟨⟨[(.str,0)],[((.int .i64),1)]⟩,none,Tryz.f153,[(6,[0],[.tmp 3 (.int .i64) false,.tmp 4 (.int .i64) false])]⟩
def e107:Ent:=⟨⟨[((.pair .str (.pair .str (.pair .str (.pair .bool (.pair .str (.pair (.int .i64) (.pair .bool (.pair (.int .i64) (.pair (.int .i64) .unit))))))))),0),((.int .i64),0),(.str,0),(.str,0)],[((.pair .str (.pair .str (.pair .str (.pair .bool (.pair .str (.pair (.int .i64) (.pair .bool (.pair (.int .i64) (.pair (.int .i64) .unit))))))))),1)]⟩,none,Tryz.f107,[]⟩
def e73:Ent:=⟨⟨[(.str,0)],[(.bool,1)]⟩,none,Tryz.f73,[(4,[0],[.tmp 3 (.int .i64) false])]⟩
def e154:Ent:=⟨⟨[(.str,0),(.str,0)],[(.bool,1)]⟩,none,Tryz.f154,[]⟩
def e71:Ent:=⟨⟨[(.str,0)],[(.bool,1)]⟩,none,Tryz.f71,[]⟩
def e108:Ent:=⟨⟨[(.str,0),(.str,0)],[(.bool,1)]⟩,none,Tryz.f108,[]⟩
def e74:Ent:=⟨⟨[((.pair .str (.pair .str (.pair .str (.pair .bool (.pair .str (.pair (.int .i64) (.pair .bool (.pair (.int .i64) (.pair (.int .i64) .unit))))))))),0)],[(.bool,1)]⟩,none,Tryz.f74,[]⟩
def e72:Ent:=⟨⟨[(.str,0)],[(.bool,1)]⟩,none,Tryz.f72,[]⟩
def e21:Ent:=⟨⟨[((.pair .str (.pair .str (.pair .str (.pair .bool (.pair .str (.pair (.int .i64) (.pair .bool (.pair (.int .i64) (.pair (.int .i64) .unit))))))))),0)],[(.bool,1)]⟩,none,Tryz.f21,[]⟩
def e49:Ent:=⟨⟨[(UT,0),(.str,0),((.int .i64),0)],[((.pair .str (.pair .str (.pair .str (.pair .bool (.pair .str (.pair (.int .i64) (.pair .bool (.pair (.int .i64) (.pair (.int .i64) .unit))))))))),1),((.int .i64),1)]⟩,none,Tryz.f49,[(18,[2,3,6,8,9,10,11],[.tmp 12 (.int .i64) false,.box (nm 11 0) (.pair .str (.pair .str (.pair .str (.pair .bool (.pair .str (.pair (.int .i64) (.pair .bool (.pair (.int .i64) (.pair (.int .i64) .unit))))))))) false])]⟩
def e134:Ent:=⟨⟨[((.pair (.lst (.int .u8)) (.pair (.int .i64) .unit)),1)],[((.pair .str (.pair .str (.pair .str (.pair .bool (.pair .str (.pair (.int .i64) (.pair .bool (.pair (.int .i64) (.pair (.int .i64) .unit))))))))),1)]⟩,none,Tryz.f134,[(4,[0,2],[.tmp 3 (.int .i64) false,.box (pn 0 0) (.pair (.lst (.int .u8)) (.pair (.int .i64) .unit)) false,.box (nm 2 0) (.pair .str (.pair .str (.pair .str (.pair .bool (.pair .str (.pair (.int .i64) (.pair .bool (.pair (.int .i64) (.pair (.int .i64) .unit))))))))) false])]⟩
def e45:Ent:=⟨⟨[((.pair .str (.pair .str (.pair .str (.pair .bool (.pair .str (.pair (.int .i64) (.pair .bool (.pair (.int .i64) (.pair (.int .i64) .unit))))))))),0),((.pair .str (.pair .str (.pair .str (.pair .bool (.pair .str (.pair (.int .i64) (.pair .bool (.pair (.int .i64) (.pair (.int .i64) .unit))))))))),0)],[(.bool,1)]⟩,none,Tryz.f45,[]⟩
def e12:Ent:=⟨⟨[((.lst (.pair .str (.pair .str (.pair .str (.pair .bool (.pair .str (.pair (.int .i64) (.pair .bool (.pair (.int .i64) (.pair (.int .i64) .unit)))))))))),0)],[(.bool,1)]⟩,none,Tryz.f12,[(4,[0],[.tmp 3 (.int .i64) false]),(14,[0,3],[.tmp 4 (.int .i64) false])]⟩
def e98:Ent:=⟨⟨[((.pair .str (.pair .str (.pair .str (.pair .bool (.pair .str (.pair (.int .i64) (.pair .bool (.pair (.int .i64) (.pair (.int .i64) .unit))))))))),0),((.int .i64),0)],[(.bool,1)]⟩,none,Tryz.f98,[]⟩
def e44:Ent:=⟨⟨[((.lst (.pair .str (.pair .str (.pair .str (.pair .bool (.pair .str (.pair (.int .i64) (.pair .bool (.pair (.int .i64) (.pair (.int .i64) .unit)))))))))),0),((.int .i64),0),(.bool,0)],[((.lst (.pair .str (.pair .str (.pair .str (.pair .bool (.pair .str (.pair (.int .i64) (.pair .bool (.pair (.int .i64) (.pair (.int .i64) .unit)))))))))),1)]⟩,none,Tryz.f44,[(6,[0,1,2],[.tmp 7 (.lst (.pair .str (.pair .str (.pair .str (.pair .bool (.pair .str (.pair (.int .i64) (.pair .bool (.pair (.int .i64) (.pair (.int .i64) .unit)))))))))) true,.tmp 8 (.int .i64) false])]⟩
def e50:Ent:=⟨⟨[((.lst (.pair .str (.pair .str (.pair .str (.pair .bool (.pair .str (.pair (.int .i64) (.pair .bool (.pair (.int .i64) (.pair (.int .i64) .unit)))))))))),0),((.pair .str (.pair .str (.pair .str (.pair .bool (.pair .str (.pair (.int .i64) (.pair .bool (.pair (.int .i64) (.pair (.int .i64) .unit))))))))),0),((.int .i64),0)],[((.lst (.pair .str (.pair .str (.pair .str (.pair .bool (.pair .str (.pair (.int .i64) (.pair .bool (.pair (.int .i64) (.pair (.int .i64) .unit)))))))))),1)]⟩,none,Tryz.f50,[(6,[0,2,4],[.tmp 7 (.lst (.pair .str (.pair .str (.pair .str (.pair .bool (.pair .str (.pair (.int .i64) (.pair .bool (.pair (.int .i64) (.pair (.int .i64) .unit)))))))))) true,.tmp 8 (.int .i64) false,.box (nm 4 0) (.pair .str (.pair .str (.pair .str (.pair .bool (.pair .str (.pair (.int .i64) (.pair .bool (.pair (.int .i64) (.pair (.int .i64) .unit))))))))) false]),(26,[7],[.tmp 9 (.int .i64) false,.tmp 10 (.int .i64) false]),(1000034,[7],[])]⟩
def e19:Ent:=⟨⟨[((.lst (.pair .str (.pair .str (.pair .str (.pair .bool (.pair .str (.pair (.int .i64) (.pair .bool (.pair (.int .i64) (.pair (.int .i64) .unit)))))))))),0),((.pair .str (.pair .str (.pair .str (.pair .bool (.pair .str (.pair (.int .i64) (.pair .bool (.pair (.int .i64) (.pair (.int .i64) .unit))))))))),0),((.int .i64),0)],[((.lst (.pair .str (.pair .str (.pair .str (.pair .bool (.pair .str (.pair (.int .i64) (.pair .bool (.pair (.int .i64) (.pair (.int .i64) .unit)))))))))),1)]⟩,none,Tryz.f19,[]⟩
def e96:Ent:=⟨⟨[((.pair (.lst (.int .u8)) (.pair (.int .i64) .unit)),1)],[((.lst (.pair .str (.pair .str (.pair .str (.pair .bool (.pair .str (.pair (.int .i64) (.pair .bool (.pair (.int .i64) (.pair (.int .i64) .unit)))))))))),1)]⟩,none,Tryz.f96,[(6,[0],[.tmp 3 (.lst (.pair .str (.pair .str (.pair .str (.pair .bool (.pair .str (.pair (.int .i64) (.pair .bool (.pair (.int .i64) (.pair (.int .i64) .unit)))))))))) true,.tmp 4 (.int .i64) false,.box (pn 0 0) (.pair (.lst (.int .u8)) (.pair (.int .i64) .unit)) false]),(16,[],[.tmp 3 (.lst (.pair .str (.pair .str (.pair .str (.pair .bool (.pair .str (.pair (.int .i64) (.pair .bool (.pair (.int .i64) (.pair (.int .i64) .unit)))))))))) true,.tmp 5 (.int .i64) false])]⟩
def e69:Ent:=⟨⟨[((.pair (.lst (.int .u8)) (.pair (.int .i64) .unit)),1)],[((.pair .str (.pair .str (.pair .str (.pair .bool (.pair .str (.pair (.int .i64) (.pair .bool (.pair (.int .i64) (.pair (.int .i64) .unit))))))))),1)]⟩,none,Tryz.f69,[]⟩
def e36:Ent:=⟨⟨[((.pair (.lst (.int .u8)) (.pair (.int .i64) .unit)),1)],[((.lst (.pair .str (.pair .str (.pair .str (.pair .bool (.pair .str (.pair (.int .i64) (.pair .bool (.pair (.int .i64) (.pair (.int .i64) .unit)))))))))),1)]⟩,none,Tryz.f36,[]⟩
def e37:Ent:=⟨⟨[((.pair (.lst (.int .u8)) (.pair (.int .i64) .unit)),1)],[((.int .i64),1)]⟩,none,Tryz.f37,[]⟩
def e8:Ent:=⟨⟨[((.lst (.int .u8)),0)],[((.lst (.pair .str (.pair .str (.pair .str (.pair .bool (.pair .str (.pair (.int .i64) (.pair .bool (.pair (.int .i64) (.pair (.int .i64) .unit)))))))))),1),((.int .i64),1),(.bool,1)]⟩,none,Tryz.f8,[]⟩
def e129:Ent:=⟨⟨[((.int .u8),0)],[(.bool,1)]⟩,none,Tryz.f129,[]⟩
def e52:Ent:=⟨⟨[((.int .i64),0),((.int .i64),0),((.int .i64),0)],[(.bool,1)]⟩,none,Tryz.f52,[]⟩
def e55:Ent:=⟨⟨[(.str,0),(.str,0)],[((.lst .str),1)]⟩,some x_strings_Split,Tryz.f55,[]⟩
def e62:Ent:=⟨⟨[(.str,0)],[((.lst .str),1)]⟩,none,Tryz.f62,[]⟩
def e241:Ent:=⟨⟨[((.lst .str),0),(.str,0)],[((.int .i64),1)]⟩,none,Tryz.f241,[(4,[0,1,7],[.tmp 8 (.int .i64) false])]⟩
def e206:Ent:=⟨⟨[((.lst .str),0),(.str,0)],[(.bool,1)]⟩,none,Tryz.f206,[]⟩
def e160:Ent:=⟨⟨[(.str,0)],[(.bool,1)]⟩,none,Tryz.f160,[(4,[0,6],[.tmp 7 (.int .i64) false])]⟩
def e176:Ent:=⟨⟨[(.str,0),(.str,0)],[(.bool,1)]⟩,none,Tryz.f176,[]⟩
def e127:Ent:=⟨⟨[(.str,0),(.str,0)],[(.bool,1)]⟩,none,Tryz.f127,[]⟩
def e242:Ent:=⟨⟨[((.int .u8),0)],[((.int .i64),1)]⟩,none,Tryz.f242,[]⟩
def e207:Ent:=⟨⟨[(.str,0)],[((.int .i64),1),(.bool,1)]⟩,none,Tryz.f207,[(20,[0,4,32],[.tmp 5 (.int .i64) false,.tmp 33 (.int .i64) false])]⟩
def e161:Ent:=⟨⟨[(.str,0)],[(.bool,1)]⟩,none,Tryz.f161,[(18,[4,31],[.tmp 32 (.int .i64) false])]⟩
def e131:Ent:=⟨⟨[(.str,0)],[(.bool,1)]⟩,none,Tryz.f131,[]⟩
def e181:Ent:=⟨⟨[(.str,0)],[((.int .i64),1),(.bool,1)]⟩,none,Tryz.f181,[(12,[4,21,22],[.tmp 5 (.int .i64) false,.tmp 23 (.int .i64) false])]⟩
def e113:Ent:=⟨⟨[((.pair (.int .i64) (.pair .str (.pair (.int .i64) .unit))),0)],[(.bool,1)]⟩,none,Tryz.f113,[]⟩
def e114:Ent:=⟨⟨[((.int .i64),0)],[(.str,1)]⟩,some x_strconv_Itoa,Tryz.f114,[]⟩
def e115:Ent:=⟨⟨[((.lst .str),0),(.str,0)],[(.str,1)]⟩,some x_strings_Join,Tryz.f115,[]⟩
def e53:Ent:=⟨⟨[((.pair (.int .i64) (.pair .str (.pair (.int .i64) .unit))),0)],[(.str,1)]⟩,none,Tryz.f53,[(14,[1],[.tmp 3 (.lst .str) true,.tmp 4 (.int .i64) false])]⟩
def e133:Ent:=⟨⟨[(.str,0)],[(.bool,1)]⟩,none,Tryz.f133,[]⟩
def e130:Ent:=⟨⟨[(.str,0),((.int .u8),0)],[((.int .i64),1)]⟩,some x_strings_IndexByte,Tryz.f130,[]⟩
def e60:Ent:=⟨⟨[(.str,0)],[(.bool,1)]⟩,none,Tryz.f60,[(4,[0,6],[.tmp 7 (.int .i64) false])]⟩
def e63:Ent:=⟨⟨[((.pair .str (.pair .str (.pair .str (.pair .bool (.pair .str (.pair (.int .i64) (.pair .bool (.pair (.int .i64) (.pair (.int .i64) .unit))))))))),0)],[(.bool,1)]⟩,none,Tryz.f63,[]⟩
def e64:Ent:=⟨⟨[((.pair .str (.pair .str (.pair .str (.pair .bool (.pair .str (.pair (.int .i64) (.pair .bool (.pair (.int .i64) (.pair (.int .i64) .unit))))))))),0)],[(.bool,1)]⟩,none,Tryz.f64,[]⟩
def e66:Ent:=⟨⟨[((.pair .str (.pair .str (.pair .str (.pair .bool (.pair .str (.pair (.int .i64) (.pair .bool (.pair (.int .i64) (.pair (.int .i64) .unit))))))))),0),((.pair .str (.pair .str (.pair .str (.pair .bool (.pair .str (.pair (.int .i64) (.pair .bool (.pair (.int .i64) (.pair (.int .i64) .unit))))))))),0)],[(.bool,1)]⟩,none,Tryz.f66,[]⟩
def e20:Ent:=⟨⟨[((.lst (.pair .str (.pair .str (.pair .str (.pair .bool (.pair .str (.pair (.int .i64) (.pair .bool (.pair (.int .i64) (.pair (.int .i64) .unit)))))))))),0)],[(.bool,1)]⟩,none,Tryz.f20,[(4,[0,5,6],[.tmp 7 (.int .i64) false])]⟩
def e41:Ent:=⟨⟨[((.lst (.pair .str (.pair .str (.pair .str (.pair .bool (.pair .str (.pair (.int .i64) (.pair .bool (.pair (.int .i64) (.pair (.int .i64) .unit)))))))))),0)],[((.lst (.pair .str (.pair .str (.pair .str (.pair .bool (.pair .str (.pair (.int .i64) (.pair .bool (.pair (.int .i64) (.pair (.int .i64) .unit)))))))))),1)]⟩,some x_slices_Clone,Tryz.f41,[]⟩
def e43:Ent:=⟨⟨[((.pair .str (.pair .str (.pair .str (.pair .bool (.pair .str (.pair (.int .i64) (.pair .bool (.pair (.int .i64) (.pair (.int .i64) .unit))))))))),0),((.int .i64),0)],[(.bool,1)]⟩,none,Tryz.f43,[]⟩
def e42:Ent:=⟨⟨[((.pair .str (.pair .str (.pair .str (.pair .bool (.pair .str (.pair (.int .i64) (.pair .bool (.pair (.int .i64) (.pair (.int .i64) .unit))))))))),0),((.adr (.int .i64)),0),((.adr .bool),0)],[(.bool,1)]⟩,none,Tryz.f42,[]⟩
def e39:Ent:=⟨⟨[((.lst (.pair .str (.pair .str (.pair .str (.pair .bool (.pair .str (.pair (.int .i64) (.pair .bool (.pair (.int .i64) (.pair (.int .i64) .unit)))))))))),0)],[((.lst (.pair .str (.pair .str (.pair .str (.pair .bool (.pair .str (.pair (.int .i64) (.pair .bool (.pair (.int .i64) (.pair (.int .i64) .unit)))))))))),0)]⟩,none,Tryz.f39,[]⟩
def e9:Ent:=⟨⟨[((.lst (.pair .str (.pair .str (.pair .str (.pair .bool (.pair .str (.pair (.int .i64) (.pair .bool (.pair (.int .i64) (.pair (.int .i64) .unit)))))))))),0),((.int .i64),0),(.bool,0)],[((.lst (.pair .str (.pair .str (.pair .str (.pair .bool (.pair .str (.pair (.int .i64) (.pair .bool (.pair (.int .i64) (.pair (.int .i64) .unit)))))))))),0)]⟩,none,Tryz.f9,[]⟩
def e11:Ent:=⟨⟨[((.lst (.pair .str (.pair .str (.pair .str (.pair .bool (.pair .str (.pair (.int .i64) (.pair .bool (.pair (.int .i64) (.pair (.int .i64) .unit)))))))))),0),((.int .i64),0),(.bool,0)],[((.lst (.pair .str (.pair .str (.pair .str (.pair .bool (.pair .str (.pair (.int .i64) (.pair .bool (.pair (.int .i64) (.pair (.int .i64) .unit)))))))))),1)]⟩,none,Tryz.f11,[]⟩
def e10:Ent:=⟨⟨[((.lst (.pair .str (.pair .str (.pair .str (.pair .bool (.pair .str (.pair (.int .i64) (.pair .bool (.pair (.int .i64) (.pair (.int .i64) .unit)))))))))),0),((.lst (.pair .str (.pair .str (.pair .str (.pair .bool (.pair .str (.pair (.int .i64) (.pair .bool (.pair (.int .i64) (.pair (.int .i64) .unit)))))))))),0)],[(.bool,1)]⟩,none,Tryz.f10,[(8,[0,1],[.tmp 5 (.int .i64) false])]⟩
def e3:Ent:=⟨⟨[((.lst (.int .u8)),0)],[(.bool,1)]⟩,none,Tryz.f3,[(18,[3,4,5,6],[.tmp 7 (.int .i64) false,.tmp 8 (.int .i64) false])]⟩
def e18:Ent:=⟨⟨[((.lst (.int .u8)),0)],[((.lst (.pair .str (.pair .str (.pair .str (.pair .bool (.pair .str (.pair (.int .i64) (.pair .bool (.pair (.int .i64) (.pair (.int .i64) .unit)))))))))),1),((.pair .str (.pair .str (.pair .str (.pair .bool (.pair .str (.pair (.int .i64) (.pair .bool (.pair (.int .i64) (.pair (.int .i64) .unit))))))))),1),((.int .i64),1)]⟩,none,Tryz.f18,[]⟩
def e48:Ent:=⟨⟨[((.lst (.pair .str (.pair .str (.pair .str (.pair .bool (.pair .str (.pair (.int .i64) (.pair .bool (.pair (.int .i64) (.pair (.int .i64) .unit)))))))))),0)],[((.lst (.pair .str (.pair .str (.pair .str (.pair .bool (.pair .str (.pair (.int .i64) (.pair .bool (.pair (.int .i64) (.pair (.int .i64) .unit)))))))))),1)]⟩,some x_slices_Clone,Tryz.f48,[]⟩
def e68:Ent:=⟨⟨[((.pair .str (.pair .str (.pair .str (.pair .bool (.pair .str (.pair (.int .i64) (.pair .bool (.pair (.int .i64) (.pair (.int .i64) .unit))))))))),0),((.adr (.int .i64)),0)],[(.bool,1)]⟩,none,Tryz.f68,[]⟩
def e17:Ent:=⟨⟨[((.lst (.pair .str (.pair .str (.pair .str (.pair .bool (.pair .str (.pair (.int .i64) (.pair .bool (.pair (.int .i64) (.pair (.int .i64) .unit)))))))))),0),((.pair .str (.pair .str (.pair .str (.pair .bool (.pair .str (.pair (.int .i64) (.pair .bool (.pair (.int .i64) (.pair (.int .i64) .unit))))))))),0),((.int .i64),0)],[((.lst (.pair .str (.pair .str (.pair .str (.pair .bool (.pair .str (.pair (.int .i64) (.pair .bool (.pair (.int .i64) (.pair (.int .i64) .unit)))))))))),1)]⟩,none,Tryz.f17,[(28,[7,48,49],[.tmp 9 (.int .i64) false,.tmp 50 (.int .i64) false])]⟩
def e5:Ent:=⟨⟨[((.lst (.int .u8)),0)],[(.bool,1)]⟩,none,Tryz.f5,[(20,[3,4,5,6,7],[.tmp 8 (.int .i64) false,.tmp 9 (.int .i64) false]),(30,[4,5,6,8],[.tmp 7 (.int .i64) false,.tmp 10 (.int .i64) false])]⟩
def Γ:Ctx:={ tys:=tys,globs:=[],ents:=[(35,e35),(38,e38),(101,e101),(193,e193),(152,e152),(192,e192),(196,e196),(231,e231),(256,e256),(257,e257),(258,e258),(232,e232),(233,e233),(272,e272),(254,e254),(230,e230),(155,e155),(109,e109),(225,e225),(184,e184),(183,e183),(75,e75),(136,e136),(182,e182),(190,e190),(273,e273),(259,e259),(275,e275),(281,e281),(274,e274),(260,e260),(234,e234),(194,e194),(135,e135),(143,e143),(150,e150),(104,e104),(187,e187),(148,e148),(195,e195),(147,e147),(100,e100),(47,e47),(97,e97),(149,e149),(102,e102),(103,e103),(140,e140),(105,e105),(151,e151),(106,e106),(153,e153),(107,e107),(73,e73),(154,e154),(71,e71),(108,e108),(74,e74),(72,e72),(21,e21),(49,e49),(134,e134),(45,e45),(12,e12),(98,e98),(44,e44),(50,e50),(19,e19),(96,e96),(69,e69),(36,e36),(37,e37),(8,e8),(129,e129),(52,e52),(55,e55),(62,e62),(241,e241),(206,e206),(160,e160),(176,e176),(127,e127),(242,e242),(207,e207),(161,e161),(131,e131),(181,e181),(113,e113),(114,e114),(115,e115),(53,e53),(133,e133),(130,e130),(60,e60),(63,e63),(64,e64),(66,e66),(20,e20),(41,e41),(43,e43),(42,e42),(39,e39),(9,e9),(11,e11),(10,e10),(3,e3),(18,e18),(48,e48),(68,e68),(17,e17),(5,e5)],eqs:=eqs,ho:=[(70,(1,(.pair .str (.pair .str (.pair .str (.pair .bool (.pair .str (.pair (.int .i64) (.pair .bool (.pair (.int .i64) (.pair (.int .i64) .unit))))))))))),(40,(3,(.pair .str (.pair .str (.pair .str (.pair .bool (.pair .str (.pair (.int .i64) (.pair .bool (.pair (.int .i64) (.pair (.int .i64) .unit))))))))))),(65,(0,(.pair .str (.pair .str (.pair .str (.pair .bool (.pair .str (.pair (.int .i64) (.pair .bool (.pair (.int .i64) (.pair (.int .i64) .unit))))))))))),(67,(2,(.pair .str (.pair .str (.pair .str (.pair .bool (.pair .str (.pair (.int .i64) (.pair .bool (.pair (.int .i64) (.pair (.int .i64) .unit)))))))))))],wf:=WF 0 Tryz.prog,wfm:=WF_mono 0 Tryz.prog }
def cs_l1Open (n:Nat) (x0:List Int):Option (((List Int)×Int×Unit)×Unit):=call Γ n 35 (x0,())
def cs_l1Rd_pick (n:Nat) (x0:(List Int)×Int×Unit) (x1:Int):Option (Int×((List Int)×Int×Unit)×Unit):=call Γ n 38 (x0,x1,())
def cs_l1Rd_of (n:Nat) (x0:(List Int)×Int×Unit) (x1:List Bs):Option (Bs×((List Int)×Int×Unit)×Unit):=call Γ n 101 (x0,x1,())
def cs_l3Trim (n:Nat) (x0:Bs):Option (Bs×Unit):=call Γ n 193 (x0,())
def cs_Lower (n:Nat) (x0:Bs):Option (Bs×Unit):=call Γ n 152 (x0,())
def cs_l3Scheme (n:Nat) (x0:Bs):Option (Bs×Bs×Bool×Unit):=call Γ n 192 (x0,())
def cs_l3Own (n:Nat) (x0:Bs):Option (Int×Unit):=call Γ n 196 (x0,())
def cs_l1At (n:Nat) (x0:Bs) (x1:Bs):Option (Int×Unit):=call Γ n 231 (x0,x1,())
def cs_l1Set (n:Nat) (x0:Int):Option (Bs×Unit):=call Γ n 256 (x0,())
def cs_l1Has (n:Nat) (x0:Bs) (x1:Int):Option (Bool×Unit):=call Γ n 257 (x0,x1,())
def cs_l1Figure (n:Nat) (x0:Int):Option (Int×Unit):=call Γ n 258 (x0,())
def cs_Encode (n:Nat) (x0:Int) (x1:Bs):Option (Bs×Unit):=call Γ n 232 (x0,x1,())
def cs_l3Tail (n:Nat) (x0:TUrl) (x1:Bs):Option (TUrl×Unit):=call Γ n 233 (x0,x1,())
def cs_l3Who (n:Nat) (x0:TUrl) (x1:Bs):Option (TUrl×Unit):=call Γ n 272 (x0,x1,())
def cs_l1Hex (n:Nat) (x0:Int):Option (Int×Unit):=call Γ n 254 (x0,())
def cs_Decode (n:Nat) (x0:Bs):Option (Bs×Unit):=call Γ n 230 (x0,())
def cs_l1Cut (n:Nat) (x0:Bs) (x1:Int):Option ((List Bs)×Unit):=call Γ n 155 (x0,x1,())
def cs_l2Parts (n:Nat) (x0:Bs):Option ((List Bs)×Unit):=call Γ n 109 (x0,())
def cs_l2Digits (n:Nat) (x0:Bs) (x1:Int):Option (Int×Unit):=call Γ n 225 (x0,x1,())
def cs_l2Part (n:Nat) (x0:Bs):Option (Int×Unit):=call Γ n 184 (x0,())
def cs_l2Ends (n:Nat) (x0:Bs):Option (Bool×Unit):=call Γ n 183 (x0,())
def cs_l1In (n:Nat) (x0:Int) (x1:Int) (x2:Int):Option (Bool×Unit):=call Γ n 75 (x0,x1,x2,())
def cs_FourGet (n:Nat) (x0:Bs):Option (Int×Bool×Unit):=call Γ n 136 (x0,())
def cs_l2Name (n:Nat) (x0:Bs):Option (Bool×Unit):=call Γ n 182 (x0,())
def cs_HostGet (n:Nat) (x0:Bs):Option (THost×Bool×Unit):=call Γ n 190 (x0,())
def cs_l3Port (n:Nat) (x0:Bs) (x1:Int):Option (Int×Unit):=call Γ n 273 (x0,x1,())
def cs_l3Authority (n:Nat) (x0:TUrl) (x1:Bs):Option (TUrl×Bool×Unit):=call Γ n 259 (x0,x1,())
def cs_l3Pieces (n:Nat) (x0:Bs):Option ((List Bs)×Unit):=call Γ n 275 (x0,())
def cs_l3Dots (n:Nat) (x0:Bs):Option (Int×Unit):=call Γ n 281 (x0,())
def cs_l3Walk (n:Nat) (x0:List Bs) (x1:List Bs):Option ((List Bs)×Unit):=call Γ n 274 (x0,x1,())
def cs_PathGet (n:Nat) (x0:Bs):Option ((List Bs)×Unit):=call Γ n 260 (x0,())
def cs_l3Hosted (n:Nat) (x0:TUrl) (x1:Bs):Option (TUrl×Bool×Unit):=call Γ n 234 (x0,x1,())
def cs_l3Read (n:Nat) (x0:Bs) (x1:Bs):Option (TUrl×Bool×Unit):=call Γ n 194 (x0,x1,())
def cs_HostOk (n:Nat) (x0:THost):Option (Bool×Unit):=call Γ n 135 (x0,())
def cs_l1Dec (n:Nat) (x0:Int):Option (Bs×Unit):=call Γ n 143 (x0,())
def cs_l2Four (n:Nat) (x0:Int):Option (Bs×Unit):=call Γ n 150 (x0,())
def cs_HostPut (n:Nat) (x0:THost):Option (Bs×Unit):=call Γ n 104 (x0,())
def cs_PathPut (n:Nat) (x0:List Bs):Option (Bs×Unit):=call Γ n 187 (x0,())
def cs_l3Put (n:Nat) (x0:TUrl):Option (Bs×Unit):=call Γ n 148 (x0,())
def cs_l3Fits (n:Nat) (x0:TUrl):Option (Bool×Unit):=call Γ n 195 (x0,())
def cs_UrlGet (n:Nat) (x0:Bs):Option (TUrl×Bool×Unit):=call Γ n 147 (x0,())
def cs_l11Home (n:Nat) (x0:(List Int)×Int×Unit):Option (TUrl×((List Int)×Int×Unit)×Unit):=call Γ n 100 (x0,())
def cs_l11Says (n:Nat) (x0:(List Int)×Int×Unit):Option (Bs×((List Int)×Int×Unit)×Unit):=call Γ n 47 (x0,())
def cs_l1Rd_one (n:Nat) (x0:(List Int)×Int×Unit) (x1:List Int):Option (Int×((List Int)×Int×Unit)×Unit):=call Γ n 97 (x0,x1,())
def cs_l3Equal (n:Nat) (x0:TUrl) (x1:TUrl):Option (Bool×Unit):=call Γ n 149 (x0,x1,())
def cs_UrlOk (n:Nat) (x0:TUrl):Option (Bool×Unit):=call Γ n 102 (x0,())
def cs_l7Cut (n:Nat) (x0:Bs) (x1:Int):Option ((List Bs)×Unit):=call Γ n 103 (x0,x1,())
def cs_l7Path (n:Nat) (x0:TUrl):Option (Bs×Unit):=call Γ n 140 (x0,())
def cs_PathOf (n:Nat) (x0:TUrl):Option (Bs×Unit):=call Γ n 105 (x0,())
def cs_l7Trim (n:Nat) (x0:Bs):Option (Bs×Unit):=call Γ n 151 (x0,())
def cs_l7Pair (n:Nat) (x0:Bs):Option (Bs×Bs×Unit):=call Γ n 106 (x0,())
def cs_l7Age (n:Nat) (x0:Bs):Option (Int×Unit):=call Γ n 153 (x0,())
def cs_l7Part (n:Nat) (x0:TCookie) (x1:Int) (x2:Bs) (x3:Bs):Option (TCookie×Unit):=call Γ n 107 (x0,x1,x2,x3,())
def cs_l7Crumb (n:Nat) (x0:Bs):Option (Bool×Unit):=call Γ n 73 (x0,())
def cs_l7Ends (n:Nat) (x0:Bs) (x1:Bs):Option (Bool×Unit):=call Γ n 154 (x0,x1,())
def cs_l7Name (n:Nat) (x0:Bs):Option (Bool×Unit):=call Γ n 71 (x0,())
def cs_DomainIn (n:Nat) (x0:Bs) (x1:Bs):Option (Bool×Unit):=call Γ n 108 (x0,x1,())
def cs_l7Prefix (n:Nat) (x0:TCookie):Option (Bool×Unit):=call Γ n 74 (x0,())
def cs_l7Four (n:Nat) (x0:Bs):Option (Bool×Unit):=call Γ n 72 (x0,())
def cs_CookieOk (n:Nat) (x0:TCookie):Option (Bool×Unit):=call Γ n 21 (x0,())
def cs_CookieGet (n:Nat) (x0:TUrl) (x1:Bs) (x2:Int):Option (TCookie×Int×Unit):=call Γ n 49 (x0,x1,x2,())
def cs_l11Cookie (n:Nat) (x0:(List Int)×Int×Unit):Option (TCookie×((List Int)×Int×Unit)×Unit):=call Γ n 134 (x0,())
def cs_l7Same (n:Nat) (x0:TCookie) (x1:TCookie):Option (Bool×Unit):=call Γ n 45 (x0,x1,())
def cs_JarOk (n:Nat) (x0:List TCookie):Option (Bool×Unit):=call Γ n 12 (x0,())
def cs_l7Over (n:Nat) (x0:TCookie) (x1:Int):Option (Bool×Unit):=call Γ n 98 (x0,x1,())
def cs_l7Clean (n:Nat) (x0:List TCookie) (x1:Int) (x2:Bool):Option ((List TCookie)×Unit):=call Γ n 44 (x0,x1,x2,())
def cs_l7Put (n:Nat) (x0:List TCookie) (x1:TCookie) (x2:Int):Option ((List TCookie)×Unit):=call Γ n 50 (x0,x1,x2,())
def cs_JarPut (n:Nat) (x0:List TCookie) (x1:TCookie) (x2:Int):Option ((List TCookie)×Unit):=call Γ n 19 (x0,x1,x2,())
def cs_l11Jar (n:Nat) (x0:(List Int)×Int×Unit):Option ((List TCookie)×((List Int)×Int×Unit)×Unit):=call Γ n 96 (x0,())
def cs_l11AnyCookie (n:Nat) (x0:(List Int)×Int×Unit):Option (TCookie×((List Int)×Int×Unit)×Unit):=call Γ n 69 (x0,())
def cs_l11AnyJar (n:Nat) (x0:(List Int)×Int×Unit):Option ((List TCookie)×((List Int)×Int×Unit)×Unit):=call Γ n 36 (x0,())
def cs_l11Now (n:Nat) (x0:(List Int)×Int×Unit):Option (Int×((List Int)×Int×Unit)×Unit):=call Γ n 37 (x0,())
def cs_DrawJarClean (n:Nat) (x0:List Int):Option ((List TCookie)×Int×Bool×Unit):=call Γ n 8 (x0,())
def ci_isDigit (n:Nat) (x0:Int):Option (Bool×Unit):=call Γ n 129 (x0,())
def ci_in (n:Nat) (x0:Int) (x1:Int) (x2:Int):Option (Bool×Unit):=call Γ n 52 (x0,x1,x2,())
def c_strings_Split (n:Nat) (x0:Bs) (x1:Bs):Option ((List Bs)×Unit):=call Γ n 55 (x0,x1,())
def ci_labels (n:Nat) (x0:Bs):Option ((List Bs)×Unit):=call Γ n 62 (x0,())
def c_slices_Index_string (n:Nat) (x0:List Bs) (x1:Bs):Option (Int×Unit):=call Γ n 241 (x0,x1,())
def c_slices_Contains_string (n:Nat) (x0:List Bs) (x1:Bs):Option (Bool×Unit):=call Γ n 206 (x0,x1,())
def ci_isHostName (n:Nat) (x0:Bs):Option (Bool×Unit):=call Γ n 160 (x0,())
def c_stringslite_HasPrefix (n:Nat) (x0:Bs) (x1:Bs):Option (Bool×Unit):=call Γ n 176 (x0,x1,())
def c_strings_HasPrefix (n:Nat) (x0:Bs) (x1:Bs):Option (Bool×Unit):=call Γ n 127 (x0,x1,())
def ci_hex (n:Nat) (x0:Int):Option (Int×Unit):=call Γ n 242 (x0,())
def ci_labelNumber (n:Nat) (x0:Bs):Option (Int×Bool×Unit):=call Γ n 207 (x0,())
def ci_endsInNumber (n:Nat) (x0:Bs):Option (Bool×Unit):=call Γ n 161 (x0,())
def ci_plainName (n:Nat) (x0:Bs):Option (Bool×Unit):=call Γ n 131 (x0,())
def ci_FourGet (n:Nat) (x0:Bs):Option (Int×Bool×Unit):=call Γ n 181 (x0,())
def ci_HostOk (n:Nat) (x0:THost):Option (Bool×Unit):=call Γ n 113 (x0,())
def c_strconv_Itoa (n:Nat) (x0:Int):Option (Bs×Unit):=call Γ n 114 (x0,())
def c_strings_Join (n:Nat) (x0:List Bs) (x1:Bs):Option (Bs×Unit):=call Γ n 115 (x0,x1,())
def ci_HostPut (n:Nat) (x0:THost):Option (Bs×Unit):=call Γ n 53 (x0,())
def ci_isFour (n:Nat) (x0:Bs):Option (Bool×Unit):=call Γ n 133 (x0,())
def c_strings_IndexByte (n:Nat) (x0:Bs) (x1:Int):Option (Int×Unit):=call Γ n 130 (x0,x1,())
def ci_isToken (n:Nat) (x0:Bs):Option (Bool×Unit):=call Γ n 60 (x0,())
def ci_Cookie_prefixOk (n:Nat) (x0:TCookie):Option (Bool×Unit):=call Γ n 63 (x0,())
def ci_CookieOk (n:Nat) (x0:TCookie):Option (Bool×Unit):=call Γ n 64 (x0,())
def ci_Cookie_twin (n:Nat) (x0:TCookie) (x1:TCookie):Option (Bool×Unit):=call Γ n 66 (x0,x1,())
def ci_JarOk (n:Nat) (x0:List TCookie):Option (Bool×Unit):=call Γ n 20 (x0,())
def c_slices_Clone_Cookie (n:Nat) (x0:List TCookie):Option ((List TCookie)×Unit):=call Γ n 41 (x0,())
def ci_Cookie_expired (n:Nat) (x0:TCookie) (x1:Int):Option (Bool×Unit):=call Γ n 43 (x0,x1,())
def ci_JarClean_1 (n:Nat) (x0:TCookie) (x1:Int) (x2:Bool):Option (Bool×Unit):=call Γ n 42 (x0,x1,x2,())
def c_slices_Clip_Cookie (n:Nat) (x0:List TCookie):Option ((List TCookie)×Unit):=call Γ n 39 (x0,())
def ci_JarClean (n:Nat) (x0:List TCookie) (x1:Int) (x2:Bool):Option ((List TCookie)×Unit):=call Γ n 9 (x0,x1,x2,())
def cs_JarClean (n:Nat) (x0:List TCookie) (x1:Int) (x2:Bool):Option ((List TCookie)×Unit):=call Γ n 11 (x0,x1,x2,())
def cl_guCookie (n:Nat) (x0:List TCookie) (x1:List TCookie):Option (Bool×Unit):=call Γ n 10 (x0,x1,())
def cl_FnJarClean (n:Nat) (x0:List Int):Option (Bool×Unit):=call Γ n 3 (x0,())
def cs_DrawJarPut (n:Nat) (x0:List Int):Option ((List TCookie)×TCookie×Int×Unit):=call Γ n 18 (x0,())
def ci_clone_Cookie (n:Nat) (x0:List TCookie):Option ((List TCookie)×Unit):=call Γ n 48 (x0,())
def ci_JarPut_1 (n:Nat) (x0:TCookie) (x1:Int):Option (Bool×Unit):=call Γ n 68 (x0,x1,())
def ci_JarPut (n:Nat) (x0:List TCookie) (x1:TCookie) (x2:Int):Option ((List TCookie)×Unit):=call Γ n 17 (x0,x1,x2,())
def cl_FnJarPut (n:Nat) (x0:List Int):Option (Bool×Unit):=call Γ n 5 (x0,())
end
end Go.VM.T
