/- Functions of the library and of the program that are walked by hand. -/
import Derived.Shelf.Strings.Builder1
import Derived.Shelf.Strings.Builder2
import Derived.Shelf.Strings.OnBuilder
import Derived.Shelf.Small.Utf8
import Derived.Shelf.Small.Strs
import Derived.Shelf.Small.Wraps
import Derived.Shelf.Strings.BuilderF
import Derived.Shelf.Strings.BuilderK
import Derived.Shelf.Strconv.Itoa0
import Derived.Shelf.Strconv.Itoa1
import Derived.Shelf.LaysM
import Derived.Shelf.Strconv.Itoa2
import Derived.Shelf.Strconv.Itoa3
import Derived.Shelf.Strings.Search1
import Derived.Shelf.Strings.Search2
import Derived.Shelf.Strings.Search3
import Derived.Shelf.Strings.Cut
import Derived.Shelf.Strings.Count
import Derived.Shelf.Strings.Shaped
import Derived.Shelf.Strings.LastIndex
import Derived.Shelf.Strings.Prefix
import Derived.Shelf.Strings.Split
import Derived.Shelf.Strings.Replace
import Derived.Shelf.Strings.SplitShaped
import Derived.Shelf.Strings.Runes
import Derived.Shelf.Strings.IndexAny
import Derived.Shelf.Strings.AsciiSet
import Derived.Shelf.Strings.IndexAnyAll
import Derived.Shelf.Unicode.DecodeSlow
import Derived.Shelf.Unicode.DecodeAny
import Derived.Shelf.Slices.Turned
import Derived.Shelf.Slices.Equal
import Derived.Ground.Names2Prog
import Derived.Shelf.Slices.ReverseS
import Derived.Shelf.Slices.Clone
import Derived.Shelf.Slices.SearchI
import Derived.Shelf.Slices.Cells
import Derived.Shelf.Slices.Empties2
import Derived.Ground.SlgnProg
import Derived.Shelf.SlicesE.Clone
import Derived.Ground.SlgfProg
import Derived.Shelf.SlicesE.IndexFunc
import Derived.Test.YtphnmhmmebomkaaGreatDoorProg
import Derived.Lib.SplitLaws
import Derived.Below
import Derived.KernelRfl
import Derived.Laws.Strings
import Derived.Lib.LaidTab
import Derived.Lib.LaidU8
import Derived.Lib.ItoaNum
import Derived.Lib.AppendIntMem
import Derived.LaidLaws
import Derived.Test.YtphnmhmmebomkaaGreatDoorZ4
import Derived.Deep.Draws
import Derived.Deep.AppendLies
import Derived.Maps.AppendAt
import Derived.OwnWalk
import Derived.Laws.BytesArg
import Derived.Laws.MakeOwn
import Derived.Laws.OwnMore
import Derived.Deep.OwnRows
import Derived.Tactics
import Derived.Lib.ConvBytes
import Derived.Laws.Slices
import Derived.WalkKit
import Derived.RowKit3
import Derived.Deep.LoopGhost
import Derived.Deep.QuietTactic
import Derived.BigQuiet
import Derived.WideLaws
import Derived.Deep.DeepCutAuto
import Derived.Deep.CutBlock
import Derived.Deep.RegionHeld3
import Derived.Laws.Rows
import Derived.Lib.AppendStr
import Derived.ArgAppend
import Derived.Laws.IdiomCopy
import Derived.OrdersHeld
import Derived.Laws.BitsLemmas
import Derived.RowKit
import Derived.Test.YtphnmhmmebomkaaGreatDoorZ3
import Derived.Laws.Runes
import Derived.Laws.RangeAny
import Derived.Lib.OthersKept
set_option linter.unusedVariables false
set_option linter.unusedSimpArgs false
set_option linter.unusedVariables false
namespace Go.Proofs
open Go.Shelf Go.RowKit
def Tryz.lays156_ren : Go.Shelf.Ren := ⟨fun | 156 => 74 | 165 => 163 | 166 => 164 | 169 => 165 | 240 => 226 | 241 => 227 | 276 => 263 | 277 => 264 | n => n, fun | 31 => 30 | 9 => 9 | 3 => 3 | 4 => 4 | 0 => 0 | 20 => 20 | 72 => 142 | 76 => 146 | 70 => 140 | 37 => 22 | 75 => 145 | 127 => 174 | 164 => 191 | 5 => 5 | 80 => 115 | n => n, fun | n => n⟩
theorem Tryz.lays156 : Go.Proofs.Lays.n156 Tryz.prog Tryz.lays156_ren := {
  mixed := by kernel_rfl
  f156 := Tryz.func74.trans (congrArg some (by kernel_rfl))
  f165 := Tryz.func163.trans (congrArg some (by kernel_rfl))
  f166 := Tryz.func164.trans (congrArg some (by kernel_rfl))
  f169 := Tryz.func165.trans (congrArg some (by kernel_rfl))
  f240 := Tryz.func226.trans (congrArg some (by kernel_rfl))
  f241 := Tryz.func227.trans (congrArg some (by kernel_rfl))
  f276 := Tryz.func263.trans (congrArg some (by kernel_rfl))
  f277 := Tryz.func264.trans (congrArg some (by kernel_rfl))
  t0 := Tryz.underlying0
  a0 := Tryz.isAgg0
  z0 := Tryz.sizeOf0
  v0 := Tryz.zeroValue0
  t3 := Tryz.underlying3
  a3 := Tryz.isAgg3
  z3 := Tryz.sizeOf3
  v3 := Tryz.zeroValue3
  t4 := Tryz.underlying4
  a4 := Tryz.isAgg4
  z4 := Tryz.sizeOf4
  v4 := Tryz.zeroValue4
  t9 := Tryz.underlying9
  a9 := Tryz.isAgg9
  z9 := Tryz.sizeOf9
  v9 := Tryz.zeroValue9
  t20 := Tryz.underlying20
  a20 := Tryz.isAgg20
  z20 := Tryz.sizeOf20
  v20 := Tryz.zeroValue20
  t31 := Tryz.underlying30
  a31 := Tryz.isAgg30
  z31 := Tryz.sizeOf30
  v31 := Tryz.zeroValue30
  t37 := Tryz.underlying22
  a37 := Tryz.isAgg22
  z37 := Tryz.sizeOf22
  v37 := Tryz.zeroValue22
  t70 := Tryz.underlying140
  a70 := Tryz.isAgg140
  z70 := Tryz.sizeOf140
  v70 := Tryz.zeroValue140
  t72 := Tryz.underlying142
  a72 := Tryz.isAgg142
  z72 := Tryz.sizeOf142
  v72 := Tryz.zeroValue142
  t75 := Tryz.underlying145
  a75 := Tryz.isAgg145
  z75 := Tryz.sizeOf145
  v75 := Tryz.zeroValue145
  t76 := Tryz.underlying146
  a76 := Tryz.isAgg146
  z76 := Tryz.sizeOf146
  v76 := Tryz.zeroValue146
  t127 := Tryz.underlying174
  a127 := Tryz.isAgg174
  z127 := Tryz.sizeOf174
  v127 := Tryz.zeroValue174
  t164 := Tryz.underlying191
  a164 := Tryz.isAgg191
  z164 := Tryz.sizeOf191
  v164 := Tryz.zeroValue191 }
theorem Tryz.Builder_Extra_156 : Builder.Extra Tryz.prog Tryz.lays156_ren := {
  sizeBuilder := by kernel_rfl
  liesBuilder := by kernel_rfl
  t5 := Tryz.underlying5
  a5 := Tryz.isAgg5
  z5 := Tryz.sizeOf5
  v5 := Tryz.zeroValue5
  infoByte := by kernel_rfl
  cellsByte := by kernel_rfl
  sizeByte := by kernel_rfl
  neB5 := by decide }
open Go.RowKit in
theorem Tryz.strings_Join_none (a : Option Addr) (c : Nat) (sep : ByteArray) (w : World) :
    Calls Tryz.prog 74 #[.slice a 0 c, .string sep] w fun e w' => e = .returned (.string ⟨#[]⟩) ∧ w' = w := Any.strings_Join_none Tryz.lays156 Tryz.Builder_Extra_156 a c sep w
open Go.RowKit in
theorem Tryz.strings_Join (bk o c : Nat) (xs : List ByteArray) (sep : ByteArray) (w : World) (hcells : ∀ (j : Nat) x, xs[j]? = some x → w.cell? ⟨bk, o + j, none⟩ = some (.string x)) (hbk : bk < w.heap.size) (hN : xs.length ≤ 140737488355328) (hcap : xs.length ≤ c) (hlen : (Lib.join (xs.map (·.data.toList)) sep.data.toList).length ≤ 140737488355328) :
    Calls Tryz.prog 74 #[.slice (some ⟨bk, o, none⟩) xs.length c, .string sep] w fun e w' => e = .returned (.string ⟨(Lib.join (xs.map (·.data.toList)) sep.data.toList).toArray⟩) ∧ Below w.heap.size w w' := Any.strings_Join Tryz.lays156 Tryz.Builder_Extra_156 bk o c xs sep w hcells hbk hN hcap hlen
def Tryz.lays137_ren : Go.Shelf.Ren := ⟨fun | 137 => 220 | 217 => 258 | 266 => 290 | n => n, fun | 9 => 9 | 5 => 5 | 3 => 3 | n => n, fun | n => n⟩
theorem Tryz.lays137 : Go.Proofs.Lays.n137 Tryz.prog Tryz.lays137_ren := {
  mixed := by kernel_rfl
  f137 := Tryz.func220.trans (congrArg some (by kernel_rfl))
  f217 := Tryz.func258.trans (congrArg some (by kernel_rfl))
  f266 := Tryz.func290.trans (congrArg some (by kernel_rfl))
  t3 := Tryz.underlying3
  a3 := Tryz.isAgg3
  z3 := Tryz.sizeOf3
  v3 := Tryz.zeroValue3
  t5 := Tryz.underlying5
  a5 := Tryz.isAgg5
  z5 := Tryz.sizeOf5
  v5 := Tryz.zeroValue5
  t9 := Tryz.underlying9
  a9 := Tryz.isAgg9
  z9 := Tryz.sizeOf9
  v9 := Tryz.zeroValue9 }
open Go.RowKit in
theorem Tryz.strings_IndexByte (s : ByteArray) (c : Int) (w : World) :
    Calls Tryz.prog 220 #[.string s, .int .u8 c] w fun e w' => e = .returned (.int .i64 (Lib.indexByte s.data.toList c.toNat.toUInt8)) ∧ w' = w := Any.strings_IndexByte Tryz.lays137 s c w
def Tryz.laysM171_ren : Go.Shelf.Ren := ⟨fun | 171 => 154 | 243 => 222 | 246 => 260 | 283 => 291 | 284 => 292 | 285 => 293 | 286 => 294 | 129 => 314 | 317 => 313 | 318 => 315 | 319 => 316 | 320 => 317 | 337 => 325 | 338 => 326 | n => n, fun | 3 => 3 | 9 => 9 | 2 => 2 | 4 => 4 | 171 => 210 | 0 => 0 | 53 => 211 | 37 => 22 | 5 => 5 | 173 => 214 | 212 => 223 | 51 => 224 | 20 => 20 | 213 => 225 | 46 => 148 | 232 => 233 | 233 => 234 | n => n, fun | 17 => 2 | 18 => 3 | 19 => 4 | n => n⟩
theorem Tryz.laysM171 : Go.Proofs.LaysM.n171 Tryz.prog Tryz.laysM171_ren := {
  mixed := by kernel_rfl
  f129 := Tryz.func314.trans (congrArg some (by kernel_rfl))
  f171 := Tryz.func154.trans (congrArg some (by kernel_rfl))
  f243 := Tryz.func222.trans (congrArg some (by kernel_rfl))
  f246 := Tryz.func260.trans (congrArg some (by kernel_rfl))
  f283 := Tryz.func291.trans (congrArg some (by kernel_rfl))
  f284 := Tryz.func292.trans (congrArg some (by kernel_rfl))
  f285 := Tryz.func293.trans (congrArg some (by kernel_rfl))
  f286 := Tryz.func294.trans (congrArg some (by kernel_rfl))
  f317 := Tryz.func313.trans (congrArg some (by kernel_rfl))
  f318 := Tryz.func315.trans (congrArg some (by kernel_rfl))
  f319 := Tryz.func316.trans (congrArg some (by kernel_rfl))
  f320 := Tryz.func317.trans (congrArg some (by kernel_rfl))
  f337 := Tryz.func325.trans (congrArg some (by kernel_rfl))
  f338 := Tryz.func326.trans (congrArg some (by kernel_rfl))
  t0 := Tryz.underlying0
  a0 := Tryz.isAgg0
  z0 := Tryz.sizeOf0
  v0 := Tryz.zeroValue0
  t2 := Tryz.underlying2
  a2 := Tryz.isAgg2
  z2 := Tryz.sizeOf2
  v2 := Tryz.zeroValue2
  t3 := Tryz.underlying3
  a3 := Tryz.isAgg3
  z3 := Tryz.sizeOf3
  v3 := Tryz.zeroValue3
  t4 := Tryz.underlying4
  a4 := Tryz.isAgg4
  z4 := Tryz.sizeOf4
  v4 := Tryz.zeroValue4
  t5 := Tryz.underlying5
  a5 := Tryz.isAgg5
  z5 := Tryz.sizeOf5
  v5 := Tryz.zeroValue5
  t9 := Tryz.underlying9
  a9 := Tryz.isAgg9
  z9 := Tryz.sizeOf9
  v9 := Tryz.zeroValue9
  t20 := Tryz.underlying20
  a20 := Tryz.isAgg20
  z20 := Tryz.sizeOf20
  v20 := Tryz.zeroValue20
  t37 := Tryz.underlying22
  a37 := Tryz.isAgg22
  z37 := Tryz.sizeOf22
  v37 := Tryz.zeroValue22
  t46 := Tryz.underlying148
  a46 := Tryz.isAgg148
  z46 := Tryz.sizeOf148
  v46 := Tryz.zeroValue148
  t51 := Tryz.underlying224
  a51 := Tryz.isAgg224
  z51 := Tryz.sizeOf224
  v51 := Tryz.zeroValue224
  t53 := Tryz.underlying211
  a53 := Tryz.isAgg211
  z53 := Tryz.sizeOf211
  v53 := Tryz.zeroValue211
  t171 := Tryz.underlying210
  a171 := Tryz.isAgg210
  z171 := Tryz.sizeOf210
  v171 := Tryz.zeroValue210
  t173 := Tryz.underlying214
  a173 := Tryz.isAgg214
  z173 := Tryz.sizeOf214
  v173 := Tryz.zeroValue214
  t212 := Tryz.underlying223
  a212 := Tryz.isAgg223
  z212 := Tryz.sizeOf223
  v212 := Tryz.zeroValue223
  t213 := Tryz.underlying225
  a213 := Tryz.isAgg225
  z213 := Tryz.sizeOf225
  t232 := Tryz.underlying233
  a232 := Tryz.isAgg233
  z232 := Tryz.sizeOf233
  v232 := Tryz.zeroValue233
  t233 := Tryz.underlying234
  a233 := Tryz.isAgg234
  z233 := Tryz.sizeOf234
  v233 := Tryz.zeroValue234
  g17 := by kernel_rfl
  g18 := by kernel_rfl
  g19 := by kernel_rfl
  i0 := by kernel_rfl
  i2 := by kernel_rfl
  i3 := by kernel_rfl
  i4 := by kernel_rfl
  i5 := by kernel_rfl
  i9 := by kernel_rfl
  i20 := by kernel_rfl
  i37 := by kernel_rfl
  i46 := by kernel_rfl
  i51 := by kernel_rfl
  i53 := by kernel_rfl
  i171 := by kernel_rfl
  i173 := by kernel_rfl
  i212 := by kernel_rfl
  i232 := by kernel_rfl
  i233 := by kernel_rfl
  m17 := by kernel_rfl
  m18 := by kernel_rfl
  m19 := by kernel_rfl }
open Go.RowKit Go.Sort Go.Lib in
theorem Tryz.strconv_Itoa (n : Int) (h0 : -9223372036854775808 ≤ n) (h1 : n ≤ 9223372036854775807) (w : World) (htab : Lib.TabIs Tryz.prog w "internal/strconv.uint64pow10" .u64 Lib.pow10Tab) :
    Calls Tryz.prog 154 #[.int .i64 n] w fun e w' => e = .returned (.string ⟨(Lib.itoa n).toArray⟩) ∧ ∃ k os, w' = grow (w.drewN k) os := Any.strconv_Itoa Tryz.laysM171 n h0 h1 w htab
def Tryz.lays146_ren : Go.Shelf.Ren := ⟨fun | 146 => 266 | 221 => 296 | 268 => 319 | 138 => 320 | 143 => 321 | 195 => 327 | 197 => 323 | 218 => 328 | 219 => 274 | 260 => 329 | 217 => 258 | 225 => 299 | 224 => 298 | 267 => 300 | 266 => 290 | 314 => 322 | n => n, fun | 9 => 9 | 31 => 30 | 3 => 3 | 4 => 4 | 0 => 0 | 105 => 230 | 21 => 21 | 5 => 5 | 46 => 148 | 119 => 235 | 139 => 238 | 138 => 237 | 146 => 228 | 51 => 224 | n => n, fun | 1 => 1 | 3 => 5 | 4 => 6 | n => n⟩
theorem Tryz.lays146 : Go.Proofs.Lays.n146 Tryz.prog Tryz.lays146_ren := {
  mixed := by kernel_rfl
  f138 := Tryz.func320.trans (congrArg some (by kernel_rfl))
  f143 := Tryz.func321.trans (congrArg some (by kernel_rfl))
  f146 := Tryz.func266.trans (congrArg some (by kernel_rfl))
  f195 := Tryz.func327.trans (congrArg some (by kernel_rfl))
  f197 := Tryz.func323.trans (congrArg some (by kernel_rfl))
  f217 := Tryz.func258.trans (congrArg some (by kernel_rfl))
  f218 := Tryz.func328.trans (congrArg some (by kernel_rfl))
  f219 := Tryz.func274.trans (congrArg some (by kernel_rfl))
  f221 := Tryz.func296.trans (congrArg some (by kernel_rfl))
  f224 := Tryz.func298.trans (congrArg some (by kernel_rfl))
  f225 := Tryz.func299.trans (congrArg some (by kernel_rfl))
  f260 := Tryz.func329.trans (congrArg some (by kernel_rfl))
  f266 := Tryz.func290.trans (congrArg some (by kernel_rfl))
  f267 := Tryz.func300.trans (congrArg some (by kernel_rfl))
  f268 := Tryz.func319.trans (congrArg some (by kernel_rfl))
  f314 := Tryz.func322.trans (congrArg some (by kernel_rfl))
  t0 := Tryz.underlying0
  a0 := Tryz.isAgg0
  z0 := Tryz.sizeOf0
  v0 := Tryz.zeroValue0
  t3 := Tryz.underlying3
  a3 := Tryz.isAgg3
  z3 := Tryz.sizeOf3
  v3 := Tryz.zeroValue3
  t4 := Tryz.underlying4
  a4 := Tryz.isAgg4
  z4 := Tryz.sizeOf4
  v4 := Tryz.zeroValue4
  t5 := Tryz.underlying5
  a5 := Tryz.isAgg5
  z5 := Tryz.sizeOf5
  v5 := Tryz.zeroValue5
  t9 := Tryz.underlying9
  a9 := Tryz.isAgg9
  z9 := Tryz.sizeOf9
  v9 := Tryz.zeroValue9
  t21 := Tryz.underlying21
  a21 := Tryz.isAgg21
  z21 := Tryz.sizeOf21
  v21 := Tryz.zeroValue21
  t31 := Tryz.underlying30
  a31 := Tryz.isAgg30
  z31 := Tryz.sizeOf30
  v31 := Tryz.zeroValue30
  t46 := Tryz.underlying148
  a46 := Tryz.isAgg148
  z46 := Tryz.sizeOf148
  v46 := Tryz.zeroValue148
  t51 := Tryz.underlying224
  a51 := Tryz.isAgg224
  z51 := Tryz.sizeOf224
  v51 := Tryz.zeroValue224
  t105 := Tryz.underlying230
  a105 := Tryz.isAgg230
  z105 := Tryz.sizeOf230
  v105 := Tryz.zeroValue230
  t119 := Tryz.underlying235
  a119 := Tryz.isAgg235
  z119 := Tryz.sizeOf235
  t138 := Tryz.underlying237
  a138 := Tryz.isAgg237
  z138 := Tryz.sizeOf237
  v138 := Tryz.zeroValue237
  t139 := Tryz.underlying238
  a139 := Tryz.isAgg238
  z139 := Tryz.sizeOf238
  v139 := Tryz.zeroValue238
  t146 := Tryz.underlying228
  a146 := Tryz.isAgg228
  z146 := Tryz.sizeOf228
  v146 := Tryz.zeroValue228
  g1 := by kernel_rfl
  g3 := by kernel_rfl
  g4 := by kernel_rfl }
open Go.RowKit Go.Lib in
theorem Tryz.strings_Split (s sep : ByteArray) (m : Int) (w : World) (hs : s.size < 4294967281) (hm : w.cell? ⟨1, 0, none⟩ = some (.int .i64 m)) (h1 : 1 ≤ sep.size) :
    Calls Tryz.prog 266 #[.string s, .string sep] w fun e w' =>
      e = .returned (.slice (some ⟨w.heap.size, 0, none⟩) (Lib.countB s sep + 1) (Lib.countB s sep + 1)) ∧ w' = w.alloc (.cells ((Lib.splitB sep 0 (Lib.countB s sep) s).map Value.string).toArray 9) := Any.strings_Split Tryz.lays146 (by kernel_rfl) s sep m w hs hm h1
end Go.Proofs
namespace Go.Proofs.YtphnmhmmebomkaaGreatDoorQ
open Go.VM Go.RowKit
structure Hid (p : Prop) : Prop where
 out : p
theorem entersOf {f : FuncId} {fn : Func} {c : Code} (hf : Tryz.prog.funcs[f]? = some fn) (hname : (fn.name == "runtime.NumGoroutine") = false) (hb : fn.body = some c) : Enters Tryz.prog f := Go.Proofs.enters_of hf hname hb
end Go.Proofs.YtphnmhmmebomkaaGreatDoorQ
set_option maxRecDepth 100000
namespace Go.VM.T0
open Go.Proofs Go.VM
noncomputable def tys : List (Nat × Ty) := [(2, (.int .i64)),
 (3, (.int .i64)),
 (4, .bool),
 (5, (.int .u8)),
 (6, (.int .u8)),
 (7, (.pair (.int .i64) (.pair (.int .i64) (.pair .bool (.pair (.int .u8) .unit))))),
 (8, (.pair (.int .i64) (.pair (.int .i64) (.pair .bool (.pair (.int .u8) .unit))))),
 (9, .str),
 (10, .str),
 (11, .str),
 (12, (.int .u64)),
 (13, (.pair .str (.pair (.int .u64) .unit))),
 (14, (.pair .str (.pair (.int .u64) .unit))),
 (21, (.int .i32)),
 (22, (.lst (.int .u8))),
 (23, (.lst (.pair .str (.pair .str (.pair .str (.pair .bool (.pair .str (.pair (.int .i64) (.pair .bool (.pair (.int .i64) (.pair (.int .i64) .unit))))))))))),
 (27, (.pair .str (.pair .str (.pair .str (.pair .bool (.pair .str (.pair (.int .i64) (.pair .bool (.pair (.int .i64) (.pair (.int .i64) .unit)))))))))),
 (28, (.pair .str (.pair .str (.pair .str (.pair .bool (.pair .str (.pair (.int .i64) (.pair .bool (.pair (.int .i64) (.pair (.int .i64) .unit)))))))))),
 (30, (.lst .str)),
 (31, (.pair (.lst .str) .unit)),
 (32, (.pair (.lst .str) .unit)),
 (39, (.pair (.int .i64) (.pair .str (.pair (.int .i64) .unit)))),
 (40, (.pair (.int .i64) (.pair .str (.pair (.int .i64) .unit)))),
 (41, (.pair .str (.pair .str (.pair .str (.pair (.pair (.int .i64) (.pair .str (.pair (.int .i64) .unit))) (.pair (.int .i64) (.pair (.lst .str) (.pair .str (.pair .bool (.pair .str (.pair .bool (.pair .str .unit)))))))))))),
 (42, (.pair .str (.pair .str (.pair .str (.pair (.pair (.int .i64) (.pair .str (.pair (.int .i64) .unit))) (.pair (.int .i64) (.pair (.lst .str) (.pair .str (.pair .bool (.pair .str (.pair .bool (.pair .str .unit)))))))))))),
 (54, (.lst (.pair (.pair .str (.pair .str (.pair .str (.pair (.pair (.int .i64) (.pair .str (.pair (.int .i64) .unit))) (.pair (.int .i64) (.pair (.lst .str) (.pair .str (.pair .bool (.pair .str (.pair .bool (.pair .str .unit))))))))))) (.pair (.int .i64) (.pair .str (.pair (.lst .str) .unit)))))),
 (59, (.pair (.pair .str (.pair .str (.pair .str (.pair (.pair (.int .i64) (.pair .str (.pair (.int .i64) .unit))) (.pair (.int .i64) (.pair (.lst .str) (.pair .str (.pair .bool (.pair .str (.pair .bool (.pair .str .unit))))))))))) (.pair (.int .i64) (.pair .str (.pair (.lst .str) .unit))))),
 (60, (.pair (.pair .str (.pair .str (.pair .str (.pair (.pair (.int .i64) (.pair .str (.pair (.int .i64) .unit))) (.pair (.int .i64) (.pair (.lst .str) (.pair .str (.pair .bool (.pair .str (.pair .bool (.pair .str .unit))))))))))) (.pair (.int .i64) (.pair .str (.pair (.lst .str) .unit))))),
 (65, (.lst (.pair (.int .i64) (.pair (.pair .str (.pair .str (.pair .str (.pair (.pair (.int .i64) (.pair .str (.pair (.int .i64) .unit))) (.pair (.int .i64) (.pair (.lst .str) (.pair .str (.pair .bool (.pair .str (.pair .bool (.pair .str .unit))))))))))) (.pair (.int .i64) (.pair (.int .i64) (.pair .str .unit))))))),
 (73, (.pair (.int .i64) (.pair (.pair .str (.pair .str (.pair .str (.pair (.pair (.int .i64) (.pair .str (.pair (.int .i64) .unit))) (.pair (.int .i64) (.pair (.lst .str) (.pair .str (.pair .bool (.pair .str (.pair .bool (.pair .str .unit))))))))))) (.pair (.int .i64) (.pair (.int .i64) (.pair .str .unit)))))),
 (74, (.pair (.int .i64) (.pair (.pair .str (.pair .str (.pair .str (.pair (.pair (.int .i64) (.pair .str (.pair (.int .i64) .unit))) (.pair (.int .i64) (.pair (.lst .str) (.pair .str (.pair .bool (.pair .str (.pair .bool (.pair .str .unit))))))))))) (.pair (.int .i64) (.pair (.int .i64) (.pair .str .unit)))))),
 (120, (.lst (.int .i64))),
 (128, (.pair .str (.pair (.pair (.int .i64) (.pair .str (.pair (.int .i64) .unit))) (.pair (.int .i64) .unit)))),
 (129, (.pair .str (.pair (.pair (.int .i64) (.pair .str (.pair (.int .i64) .unit))) (.pair (.int .i64) .unit)))),
 (138, (.pair (.lst (.int .u8)) (.pair (.int .i64) .unit))),
 (139, (.pair (.lst (.int .u8)) (.pair (.int .i64) .unit))),
 (148, (.int .u64)),
 (211, (.int .u64)),
 (224, (.int .u32)),
 (236, (.pair (.int .u8) (.pair (.int .u8) .unit))),
 (237, (.pair (.int .u8) (.pair (.int .u8) .unit))),
 (244, (.int .u8)),
 (245, (.int .u8)),
 (247, (.int .i32)),
 (248, (.int .i32))]
noncomputable def eqs : List (Nat × Ty) := [(28, (.pair .str (.pair .str (.pair .str (.pair .bool (.pair .str (.pair (.int .i64) (.pair .bool (.pair (.int .i64) (.pair (.int .i64) .unit)))))))))), (40, (.pair (.int .i64) (.pair .str (.pair (.int .i64) .unit)))), (129, (.pair .str (.pair (.pair (.int .i64) (.pair .str (.pair (.int .i64) .unit))) (.pair (.int .i64) .unit))))]
noncomputable def e239 : Ent := ⟨⟨[((.int .u8), 0)], [(.str, 1)]⟩, none, Tryz.f239, []⟩
noncomputable def e267 : Ent := ⟨⟨[((.int .u8), 0)], [((.int .i64), 1)]⟩, none, Tryz.f267, []⟩
noncomputable def e129 : Ent := ⟨⟨[((.int .i64), 0), ((.int .i64), 0), ((.int .i64), 0)], [(.bool, 1)]⟩, none, Tryz.f129, []⟩
noncomputable def Γ : Ctx := { tys := tys, globs := [], ents := [(239, e239), (267, e267), (129, e129)], eqs := eqs }
noncomputable def ci_hex (n : Nat) (x0 : Int) : Option (Int × Unit) := call Γ n 267 (x0, ())
noncomputable def ci_in (n : Nat) (x0 : Int) (x1 : Int) (x2 : Int) : Option (Bool × Unit) := call Γ n 129 (x0, x1, x2, ())
end Go.VM.T0
set_option maxRecDepth 100000
set_option linter.unusedVariables false
namespace Go.VM.T0
open Go.Proofs Go.VM
noncomputable def mi_hex (n : Nat) (x0 : Int) : Option (Int × Unit) := bif (decide ((48 : Int) ≤ x0)) then (bif (decide (x0 ≤ (57 : Int))) then (some ((IntKind.i64.wrap (IntKind.u8.wrap (x0 - (48 : Int)))), ())) else (bif (decide ((97 : Int) ≤ x0)) then (bif (decide (x0 ≤ (102 : Int))) then (some ((IntKind.i64.wrap ((IntKind.i64.wrap (IntKind.u8.wrap (x0 - (97 : Int)))) + (10 : Int))), ())) else (bif (decide ((65 : Int) ≤ x0)) then (bif (decide (x0 ≤ (70 : Int))) then (some ((IntKind.i64.wrap ((IntKind.i64.wrap (IntKind.u8.wrap (x0 - (65 : Int)))) + (10 : Int))), ())) else (some ((-1 : Int), ()))) else (some ((-1 : Int), ())))) else (bif (decide ((65 : Int) ≤ x0)) then (bif (decide (x0 ≤ (70 : Int))) then (some ((IntKind.i64.wrap ((IntKind.i64.wrap (IntKind.u8.wrap (x0 - (65 : Int)))) + (10 : Int))), ())) else (some ((-1 : Int), ()))) else (some ((-1 : Int), ()))))) else (bif (decide ((97 : Int) ≤ x0)) then (bif (decide (x0 ≤ (102 : Int))) then (some ((IntKind.i64.wrap ((IntKind.i64.wrap (IntKind.u8.wrap (x0 - (97 : Int)))) + (10 : Int))), ())) else (bif (decide ((65 : Int) ≤ x0)) then (bif (decide (x0 ≤ (70 : Int))) then (some ((IntKind.i64.wrap ((IntKind.i64.wrap (IntKind.u8.wrap (x0 - (65 : Int)))) + (10 : Int))), ())) else (some ((-1 : Int), ()))) else (some ((-1 : Int), ())))) else (bif (decide ((65 : Int) ≤ x0)) then (bif (decide (x0 ≤ (70 : Int))) then (some ((IntKind.i64.wrap ((IntKind.i64.wrap (IntKind.u8.wrap (x0 - (65 : Int)))) + (10 : Int))), ())) else (some ((-1 : Int), ()))) else (some ((-1 : Int), ()))))
theorem ei_hex (n : Nat) (x0 : Int) : ci_hex (n + 1) x0 = mi_hex n x0 := by kernel_rfl
noncomputable def mi_in (n : Nat) (x0 : Int) (x1 : Int) (x2 : Int) : Option (Bool × Unit) := bif (decide (x1 ≤ x0)) then (some ((decide (x0 ≤ x2)), ())) else (some (false, ()))
theorem ei_in (n : Nat) (x0 : Int) (x1 : Int) (x2 : Int) : ci_in (n + 1) x0 x1 x2 = mi_in n x0 x1 x2 := by kernel_rfl
end Go.VM.T0
set_option maxRecDepth 100000
namespace Go.VM.T0
open Go.Proofs Go.VM
theorem tyOk_ : TyOk Tryz.prog Γ.tys := tyOk (by kernel_rfl)
theorem eqsOk_ : EqsOk Tryz.prog Γ := eqsOk (by kernel_rfl)
theorem k239 : EntOk Tryz.prog Γ 239 e239 := EntOk.fun Tryz.func239 (by kernel_rfl)
theorem k267 : EntOk Tryz.prog Γ 267 e267 := EntOk.fun Tryz.func267 (by kernel_rfl)
theorem k129 : EntOk Tryz.prog Γ 129 e129 := EntOk.fun Tryz.func129 (by kernel_rfl)
theorem entsOk_  : EntsOk Tryz.prog Γ := show EntsOn Tryz.prog Γ Γ.ents from .cons k239 (.cons k267 (.cons k129 (.nil)))
end Go.VM.T0
namespace Go.Proofs.YtphnmhmmebomkaaGreatDoorQ
open Go.VM Go.RowKit
theorem mixed : Tryz.prog.follows .mixedOrders = true := by kernel_rfl
def IsBu (B b : Nat) (l : Bs) (w : World) : Prop := Lib.IsBuilderF 142 5 B b (Lib.byteCells l) w
theorem IsBu.fresh {B b : Nat} {w : World} (h : w.heap[b]? = some (.cells #[.pointer none, .slice none 0 0] 142 (0, 0))) (hB : B ≤ b) : IsBu B b [] w :=
 .inl ⟨hB, _, h, ⟨by simp [Lib.byteCells], .inl ⟨rfl, rfl⟩⟩, by intro h; cases h⟩
theorem IsBu.lt {B b : Nat} {l : Bs} {w : World} (h : IsBu B b l w) : b < w.heap.size := h.elim (fun x => x.lt) (fun x => x.lt)
theorem IsBu.below {B b : Nat} {l : Bs} {w w' : World} (h : IsBu B b l w) (hb : Below w.heap.size w w') : IsBu B b l w' := by
 have same : ∀ {k o}, w.heap[k]? = some o → w'.heap[k]? = some o := fun {k o} hk => (hb.block k (by
  rcases Nat.lt_or_ge k w.heap.size with h | h
  ·exact h
  ·rw [Array.getElem?_eq_none h] at hk; cases hk)).trans hk
 have at_ : ∀ {p bs}, Lib.BuilderAtF 142 5 B b p bs w → Lib.BuilderAtF 142 5 B b p bs w' := by
  rintro p bs ⟨h1, v, h2, h3, h4⟩
  refine ⟨h1, v, same h2, ⟨h3.1, ?_⟩, h4⟩
  rcases h3.2 with h5 | ⟨g, cap, cur, fz, e1, e2, e3, e4⟩
  ·exact .inl h5
  ·exact .inr ⟨g, cap, cur, fz, e1, e2, same e3, e4⟩
 exact h.elim (fun x => .inl (at_ x)) (fun x => .inr (at_ x))
theorem encB_len (any : Bs) (c : UInt8) : (encB any c).length ≤ 3 := by unfold encB; split <;> simp
theorem encM_len (any : Bs) : ∀ l : Bs, (encM any l).length ≤ 3 * l.length
 | [] => by simp [encM]
 | c :: l => by
  have := encM_len any l
  have := encB_len any c
  simp only [encM, List.flatMap_cons, List.length_append, List.length_cons] at *
  omega
theorem IsBu.drew {B b : Nat} {l : Bs} {w : World} (h : IsBu B b l w) : IsBu B b l w.drew := h.below (Below.refl _ _).drew
theorem decM_pct (a b : UInt8) (r : Bs) (ha : 0 ≤ hexM a) (hb : 0 ≤ hexM b) : decM (37 :: a :: b :: r) = hexB a b :: decM r := by
 rw [decM]; simp [ha, hb]
theorem decM_one (c : UInt8) (l : Bs) (h : ¬ (c = 37 ∧ ∃ a b r, l = a :: b :: r ∧ 0 ≤ hexM a ∧ 0 ≤ hexM b)) : decM (c :: l) = c :: decM l := by
 by_cases hc : c = 37
 ·subst hc
  match l, h with
  | [], _ => rfl
  | [a], _ => rfl
  | a :: b :: r, h =>
   rw [decM, if_neg]
   rintro ⟨h1, h2⟩
   exact h ⟨rfl, a, b, r, rfl, h1, h2⟩
 ·rw [decM]
  intro a b h1 h2
  exact absurd h2 hc
theorem dec_len (l : Bs) : (decM l).length ≤ l.length := by
 have key : ∀ n (l : Bs), l.length ≤ n → (decM l).length ≤ l.length := by
  intro n
  induction n with
  | zero => intro l hl; cases l with
   | nil => simp [decM]
   | cons c l => simp at hl
  | succ n ih =>
   intro l hl
   cases l with
   | nil => simp [decM]
   | cons c l =>
    by_cases h : c = 37 ∧ ∃ a b r, l = a :: b :: r ∧ 0 ≤ hexM a ∧ 0 ≤ hexM b
    ·obtain ⟨rfl, a, b, r, rfl, h1, h2⟩ := h
     rw [decM_pct a b r h1 h2]
     have := ih r (by simp at hl; omega)
     simp
     omega
    ·rw [decM_one c l h]
     have := ih l (by simpa using hl)
     simpa using this
 exact key _ l (Nat.le_refl _)
end Go.Proofs.YtphnmhmmebomkaaGreatDoorQ
namespace Go.Proofs.YtphnmhmmebomkaaGreatDoorQ
open Go.VM Go.RowKit
variable {Γ : Ctx}
end Go.Proofs.YtphnmhmmebomkaaGreatDoorQ
namespace Go.Proofs.YtphnmhmmebomkaaGreatDoorQ
open Go.VM Go.RowKit
end Go.Proofs.YtphnmhmmebomkaaGreatDoorQ
set_option maxRecDepth 100000
namespace Go.VM.T
open Go.Proofs Go.VM
abbrev UT : Ty := (.pair .str (.pair .str (.pair .str (.pair (.pair (.int .i64) (.pair .str (.pair (.int .i64) .unit))) (.pair (.int .i64) (.pair (.lst .str) (.pair .str (.pair .bool (.pair .str (.pair .bool (.pair .str .unit)))))))))))
noncomputable section
def tys : List (Nat × Ty) := [(2, (.int .i64)),
 (3, (.int .i64)),
 (4, .bool),
 (5, (.int .u8)),
 (6, (.int .u8)),
 (7, (.pair (.int .i64) (.pair (.int .i64) (.pair .bool (.pair (.int .u8) .unit))))),
 (8, (.pair (.int .i64) (.pair (.int .i64) (.pair .bool (.pair (.int .u8) .unit))))),
 (9, .str),
 (10, .str),
 (11, .str),
 (12, (.int .u64)),
 (13, (.pair .str (.pair (.int .u64) .unit))),
 (14, (.pair .str (.pair (.int .u64) .unit))),
 (21, (.int .i32)),
 (22, (.lst (.int .u8))),
 (23, (.lst (.pair .str (.pair .str (.pair .str (.pair .bool (.pair .str (.pair (.int .i64) (.pair .bool (.pair (.int .i64) (.pair (.int .i64) .unit))))))))))),
 (27, (.pair .str (.pair .str (.pair .str (.pair .bool (.pair .str (.pair (.int .i64) (.pair .bool (.pair (.int .i64) (.pair (.int .i64) .unit)))))))))),
 (28, (.pair .str (.pair .str (.pair .str (.pair .bool (.pair .str (.pair (.int .i64) (.pair .bool (.pair (.int .i64) (.pair (.int .i64) .unit)))))))))),
 (30, (.lst .str)),
 (31, (.pair (.lst .str) .unit)),
 (32, (.pair (.lst .str) .unit)),
 (39, (.pair (.int .i64) (.pair .str (.pair (.int .i64) .unit)))),
 (40, (.pair (.int .i64) (.pair .str (.pair (.int .i64) .unit)))),
 (41, UT),
 (42, UT),
 (54, (.lst (.pair UT (.pair (.int .i64) (.pair .str (.pair (.lst .str) .unit)))))),
 (59, (.pair UT (.pair (.int .i64) (.pair .str (.pair (.lst .str) .unit))))),
 (60, (.pair UT (.pair (.int .i64) (.pair .str (.pair (.lst .str) .unit))))),
 (65, (.lst (.pair (.int .i64) (.pair UT (.pair (.int .i64) (.pair (.int .i64) (.pair .str .unit))))))),
 (73, (.pair (.int .i64) (.pair UT (.pair (.int .i64) (.pair (.int .i64) (.pair .str .unit)))))),
 (74, (.pair (.int .i64) (.pair UT (.pair (.int .i64) (.pair (.int .i64) (.pair .str .unit)))))),
 (120, (.lst (.int .i64))),
 (128, (.pair .str (.pair (.pair (.int .i64) (.pair .str (.pair (.int .i64) .unit))) (.pair (.int .i64) .unit)))),
 (129, (.pair .str (.pair (.pair (.int .i64) (.pair .str (.pair (.int .i64) .unit))) (.pair (.int .i64) .unit)))),
 (138, (.pair (.lst (.int .u8)) (.pair (.int .i64) .unit))),
 (139, (.pair (.lst (.int .u8)) (.pair (.int .i64) .unit))),
 (148, (.int .u64)),
 (211, (.int .u64)),
 (224, (.int .u32)),
 (236, (.pair (.int .u8) (.pair (.int .u8) .unit))),
 (237, (.pair (.int .u8) (.pair (.int .u8) .unit))),
 (244, (.int .u8)),
 (245, (.int .u8)),
 (247, (.int .i32)),
 (248, (.int .i32))]
def eqs : List (Nat × Ty) := [(28, (.pair .str (.pair .str (.pair .str (.pair .bool (.pair .str (.pair (.int .i64) (.pair .bool (.pair (.int .i64) (.pair (.int .i64) .unit)))))))))), (40, (.pair (.int .i64) (.pair .str (.pair (.int .i64) .unit)))), (129, (.pair .str (.pair (.pair (.int .i64) (.pair .str (.pair (.int .i64) .unit))) (.pair (.int .i64) .unit))))]
def e73 : Ent := ⟨⟨[((.lst (.int .u8)), 0)], [((.pair (.lst (.int .u8)) (.pair (.int .i64) .unit)), 2)]⟩, none, Tryz.f73, []⟩
def e86 : Ent := ⟨⟨[((.pair (.lst (.int .u8)) (.pair (.int .i64) .unit)), 1), ((.int .i64), 0)], [((.int .i64), 1)]⟩, none, Tryz.f86, []⟩
def e77 : Ent := ⟨⟨[((.pair (.lst (.int .u8)) (.pair (.int .i64) .unit)), 1), ((.lst .str), 0)], [(.str, 1)]⟩, none, Tryz.f77, []⟩
def e202 : Ent := ⟨⟨[(.str, 0)], [(.str, 1)]⟩, none, Tryz.f202, [(2, [], [.tmp 0 .str false]), (6, [], [.tmp 0 .str false]), (14, [0], [.tmp 3 (.lst (.int .u8)) true, .tmp 4 (.int .i64) false])]⟩
def e252 : Ent := ⟨⟨[(.str, 0)], [(.str, 1)]⟩, none, Tryz.f252, [(6, [0], [.tmp 3 (.lst (.int .u8)) true, .tmp 4 (.int .i64) false])]⟩
def e201 : Ent := ⟨⟨[(.str, 0)], [(.str, 1), (.str, 1), (.bool, 1)]⟩, none, Tryz.f201, [(4, [0], [.tmp 5 (.int .i64) false])]⟩
def e205 : Ent := ⟨⟨[(.str, 0)], [((.int .i64), 1)]⟩, none, Tryz.f205, []⟩
def e253 : Ent := ⟨⟨[(.str, 0), (.str, 0)], [((.int .i64), 1)]⟩, none, Tryz.f253, [(4, [0, 1], [.tmp 5 (.int .i64) false]), (10, [0, 1, 5], [.tmp 6 (.int .i64) false])]⟩
def e285 : Ent := ⟨⟨[((.int .i64), 0)], [(.str, 1)]⟩, none, Tryz.f285, []⟩
def e286 : Ent := ⟨⟨[(.str, 0), ((.int .u8), 0)], [(.bool, 1)]⟩, none, Tryz.f286, [(4, [0, 1], [.tmp 5 (.int .i64) false])]⟩
def e287 : Ent := ⟨⟨[((.int .i64), 0)], [((.int .u8), 1)]⟩, none, Tryz.f287, []⟩
def e254 : Ent := ⟨⟨[((.int .i64), 0), (.str, 0)], [(.str, 1)]⟩, none, Tryz.f254, [(8, [1, 6], [.tmp 5 (.lst (.int .u8)) true, .tmp 7 (.int .i64) false])]⟩
def e255 : Ent := ⟨⟨[(UT, 0), (.str, 0)], [(UT, 0)]⟩, none, Tryz.f255, []⟩
def e309 : Ent := ⟨⟨[(UT, 0), (.str, 0)], [(UT, 0)]⟩, none, Tryz.f309, []⟩
def e304 : Ent := ⟨⟨[((.int .u8), 0)], [((.int .i64), 1)]⟩, none, Tryz.f304, []⟩
def e308 : Ent := ⟨⟨[(.str, 0)], [(.str, 1)]⟩, none, Tryz.f308, [(6, [0], [.tmp 3 (.lst (.int .u8)) true, .tmp 4 (.int .i64) false])]⟩
def e269 : Ent := ⟨⟨[(.str, 0), ((.int .u8), 0)], [((.lst .str), 1)]⟩, none, Tryz.f269, [(8, [0, 1], [.tmp 5 (.lst .str) true, .tmp 6 (.int .i64) false, .tmp 7 (.int .i64) false])]⟩
def e248 : Ent := ⟨⟨[(.str, 0)], [((.lst .str), 1)]⟩, none, Tryz.f248, []⟩
def e281 : Ent := ⟨⟨[(.str, 0), ((.int .i64), 0)], [((.int .i64), 1)]⟩, none, Tryz.f281, [(6, [0, 1], [.tmp 5 (.int .i64) false, .tmp 6 (.int .i64) false])]⟩
def e249 : Ent := ⟨⟨[(.str, 0)], [((.int .i64), 1)]⟩, none, Tryz.f249, []⟩
def e235 : Ent := ⟨⟨[(.str, 0)], [(.bool, 1)]⟩, none, Tryz.f235, [(14, [4], [.tmp 5 .bool false, .tmp 6 (.int .i64) false])]⟩
def e104 : Ent := ⟨⟨[((.int .i64), 0), ((.int .i64), 0), ((.int .i64), 0)], [(.bool, 1)]⟩, none, Tryz.f104, []⟩
def e191 : Ent := ⟨⟨[(.str, 0)], [((.int .i64), 1), (.bool, 1)]⟩, none, Tryz.f191, [(12, [4], [.tmp 5 (.int .i64) false, .tmp 6 (.int .i64) false]), (24, [4, 5, 6, 7], [.tmp 8 (.int .i64) false, .tmp 9 (.int .i64) false])]⟩
def e234 : Ent := ⟨⟨[(.str, 0)], [(.bool, 1)]⟩, none, Tryz.f234, [(6, [0, 3], [.tmp 4 (.int .i64) false]), (16, [0, 3, 4], [.tmp 5 (.int .i64) false])]⟩
def e283 : Ent := ⟨⟨[(.str, 0)], [((.pair (.int .i64) (.pair .str (.pair (.int .i64) .unit))), 1), (.bool, 1)]⟩, none, Tryz.f283, []⟩
def e310 : Ent := ⟨⟨[(.str, 0), ((.int .i64), 0)], [((.int .i64), 1)]⟩, none, Tryz.f310, []⟩
def e288 : Ent := ⟨⟨[(UT, 0), (.str, 0)], [(UT, 0), (.bool, 1)]⟩, none, Tryz.f288, [(6, [1, 2, 4], [.tmp 6 (.int .i64) false, .tmp 7 (.int .i64) false])]⟩
def e312 : Ent := ⟨⟨[(.str, 0)], [((.lst .str), 1)]⟩, none, Tryz.f312, [(6, [3], [.tmp 4 (.int .i64) false, .tmp 3 (.lst (.int .u8)) true])]⟩
def e324 : Ent := ⟨⟨[(.str, 0)], [((.int .i64), 1)]⟩, none, Tryz.f324, []⟩
def e311 : Ent := ⟨⟨[((.lst .str), 0), ((.lst .str), 0)], [((.lst .str), 1)]⟩, none, Tryz.f311, [(6, [1], [.tmp 5 (.lst .str) true, .tmp 6 (.int .i64) false])]⟩
def e289 : Ent := ⟨⟨[(.str, 0)], [((.lst .str), 1)]⟩, none, Tryz.f289, []⟩
def e256 : Ent := ⟨⟨[(UT, 0), (.str, 0)], [(UT, 0), (.bool, 1)]⟩, none, Tryz.f256, []⟩
def e203 : Ent := ⟨⟨[(.str, 0), (.str, 0)], [(UT, 0), (.bool, 1)]⟩, none, Tryz.f203, [(12, [4, 6], [.tmp 1 .str false])]⟩
def e174 : Ent := ⟨⟨[((.pair (.int .i64) (.pair .str (.pair (.int .i64) .unit))), 0)], [(.bool, 1)]⟩, none, Tryz.f174, []⟩
def e206 : Ent := ⟨⟨[((.int .i64), 0)], [(.str, 1)]⟩, none, Tryz.f206, []⟩
def e217 : Ent := ⟨⟨[((.int .i64), 0)], [(.str, 1)]⟩, none, Tryz.f217, []⟩
def e146 : Ent := ⟨⟨[((.pair (.int .i64) (.pair .str (.pair (.int .i64) .unit))), 0)], [(.str, 1)]⟩, none, Tryz.f146, []⟩
def e207 : Ent := ⟨⟨[((.lst .str), 0)], [(.str, 1)]⟩, none, Tryz.f207, [(6, [0], [.tmp 3 .str false, .tmp 4 (.int .i64) false])]⟩
def e121 : Ent := ⟨⟨[(UT, 0)], [(.str, 1)]⟩, none, Tryz.f121, [(21, [1], [.tmp 3 .str false]), (27, [1], [.tmp 3 .str false]), (29, [1], [.tmp 3 .str false]), (33, [1], [.tmp 3 .str false])]⟩
def e204 : Ent := ⟨⟨[(UT, 0)], [(.bool, 1)]⟩, none, Tryz.f204, []⟩
def e120 : Ent := ⟨⟨[(.str, 0)], [(UT, 0), (.bool, 1)]⟩, none, Tryz.f120, []⟩
def e194 : Ent := ⟨⟨[((.pair (.lst (.int .u8)) (.pair (.int .i64) .unit)), 1)], [(UT, 0)]⟩, none, Tryz.f194, []⟩
def e247 : Ent := ⟨⟨[((.pair (.lst (.int .u8)) (.pair (.int .i64) .unit)), 1)], [(.str, 1)]⟩, none, Tryz.f247, [(6, [0], [.tmp 3 .str false, .tmp 4 (.int .i64) false, .box (pn 0 0) (.pair (.lst (.int .u8)) (.pair (.int .i64) .unit)) false])]⟩
def e116 : Ent := ⟨⟨[((.pair (.lst (.int .u8)) (.pair (.int .i64) .unit)), 1), ((.lst (.int .i64)), 0)], [((.int .i64), 1)]⟩, none, Tryz.f116, []⟩
def e122 : Ent := ⟨⟨[(UT, 0), (UT, 0)], [(.bool, 1)]⟩, none, Tryz.f122, [(8, [2, 3], [.tmp 5 (.int .i64) false])]⟩
def e46 : Ent := ⟨⟨[(UT, 0)], [(.bool, 1)]⟩, none, Tryz.f46, []⟩
def e277 : Ent := ⟨⟨[(.str, 0), ((.int .u8), 0)], [((.lst .str), 1)]⟩, none, Tryz.f277, [(8, [0, 1], [.tmp 5 (.lst .str) true, .tmp 6 (.int .i64) false, .tmp 7 (.int .i64) false])]⟩
def e149 : Ent := ⟨⟨[(UT, 0)], [(.str, 1)]⟩, none, Tryz.f149, []⟩
def e278 : Ent := ⟨⟨[(UT, 0)], [(.str, 1)]⟩, none, Tryz.f278, [(10, [3], [.tmp 4 (.int .i64) false])]⟩
def e302 : Ent := ⟨⟨[(.str, 0)], [(.str, 1)]⟩, none, Tryz.f302, [(2, [], [.tmp 0 .str false]), (6, [], [.tmp 0 .str false])]⟩
def e279 : Ent := ⟨⟨[(.str, 0)], [(.str, 1), (.str, 1)]⟩, none, Tryz.f279, [(4, [0], [.tmp 4 (.int .i64) false])]⟩
def e303 : Ent := ⟨⟨[(.str, 0)], [((.int .i64), 1)]⟩, none, Tryz.f303, [(6, [0], [.tmp 3 (.int .i64) false, .tmp 4 (.int .i64) false])]⟩
def e280 : Ent := ⟨⟨[((.pair .str (.pair .str (.pair .str (.pair .bool (.pair .str (.pair (.int .i64) (.pair .bool (.pair (.int .i64) (.pair (.int .i64) .unit))))))))), 0), ((.int .i64), 0), (.str, 0), (.str, 0)], [((.pair .str (.pair .str (.pair .str (.pair .bool (.pair .str (.pair (.int .i64) (.pair .bool (.pair (.int .i64) (.pair (.int .i64) .unit))))))))), 1)]⟩, none, Tryz.f280, []⟩
def e102 : Ent := ⟨⟨[(.str, 0)], [(.bool, 1)]⟩, none, Tryz.f102, [(4, [0], [.tmp 3 (.int .i64) false])]⟩
def e218 : Ent := ⟨⟨[(.str, 0), (.str, 0)], [(.bool, 1)]⟩, none, Tryz.f218, []⟩
def e82 : Ent := ⟨⟨[(.str, 0)], [(.bool, 1)]⟩, none, Tryz.f82, []⟩
def e147 : Ent := ⟨⟨[(.str, 0), (.str, 0)], [(.bool, 1)]⟩, none, Tryz.f147, []⟩
def e103 : Ent := ⟨⟨[((.pair .str (.pair .str (.pair .str (.pair .bool (.pair .str (.pair (.int .i64) (.pair .bool (.pair (.int .i64) (.pair (.int .i64) .unit))))))))), 0)], [(.bool, 1)]⟩, none, Tryz.f103, []⟩
def e101 : Ent := ⟨⟨[(.str, 0)], [(.bool, 1)]⟩, none, Tryz.f101, []⟩
def e35 : Ent := ⟨⟨[((.pair .str (.pair .str (.pair .str (.pair .bool (.pair .str (.pair (.int .i64) (.pair .bool (.pair (.int .i64) (.pair (.int .i64) .unit))))))))), 0)], [(.bool, 1)]⟩, none, Tryz.f35, []⟩
def e246 : Ent := ⟨⟨[(UT, 0), (.str, 0), ((.int .i64), 0)], [((.pair .str (.pair .str (.pair .str (.pair .bool (.pair .str (.pair (.int .i64) (.pair .bool (.pair (.int .i64) (.pair (.int .i64) .unit))))))))), 1), ((.int .i64), 1)]⟩, none, Tryz.f246, [(18, [2, 3, 6, 8, 9, 10, 11], [.tmp 12 (.int .i64) false, .box (nm 11 0) (.pair .str (.pair .str (.pair .str (.pair .bool (.pair .str (.pair (.int .i64) (.pair .bool (.pair (.int .i64) (.pair (.int .i64) .unit))))))))) false])]⟩
def e190 : Ent := ⟨⟨[((.pair (.lst (.int .u8)) (.pair (.int .i64) .unit)), 1)], [((.pair .str (.pair .str (.pair .str (.pair .bool (.pair .str (.pair (.int .i64) (.pair .bool (.pair (.int .i64) (.pair (.int .i64) .unit))))))))), 1)]⟩, none, Tryz.f190, [(4, [0, 2], [.tmp 3 (.int .i64) false, .box (pn 0 0) (.pair (.lst (.int .u8)) (.pair (.int .i64) .unit)) false, .box (nm 2 0) (.pair .str (.pair .str (.pair .str (.pair .bool (.pair .str (.pair (.int .i64) (.pair .bool (.pair (.int .i64) (.pair (.int .i64) .unit))))))))) false])]⟩
def e75 : Ent := ⟨⟨[((.pair .str (.pair .str (.pair .str (.pair .bool (.pair .str (.pair (.int .i64) (.pair .bool (.pair (.int .i64) (.pair (.int .i64) .unit))))))))), 0), ((.pair .str (.pair .str (.pair .str (.pair .bool (.pair .str (.pair (.int .i64) (.pair .bool (.pair (.int .i64) (.pair (.int .i64) .unit))))))))), 0)], [(.bool, 1)]⟩, none, Tryz.f75, []⟩
def e18 : Ent := ⟨⟨[((.lst (.pair .str (.pair .str (.pair .str (.pair .bool (.pair .str (.pair (.int .i64) (.pair .bool (.pair (.int .i64) (.pair (.int .i64) .unit)))))))))), 0)], [(.bool, 1)]⟩, none, Tryz.f18, [(4, [0], [.tmp 3 (.int .i64) false]), (14, [0, 3], [.tmp 4 (.int .i64) false])]⟩
def e145 : Ent := ⟨⟨[((.pair .str (.pair .str (.pair .str (.pair .bool (.pair .str (.pair (.int .i64) (.pair .bool (.pair (.int .i64) (.pair (.int .i64) .unit))))))))), 0), ((.int .i64), 0)], [(.bool, 1)]⟩, none, Tryz.f145, []⟩
def e92 : Ent := ⟨⟨[((.lst (.pair .str (.pair .str (.pair .str (.pair .bool (.pair .str (.pair (.int .i64) (.pair .bool (.pair (.int .i64) (.pair (.int .i64) .unit)))))))))), 0), ((.int .i64), 0), (.bool, 0)], [((.lst (.pair .str (.pair .str (.pair .str (.pair .bool (.pair .str (.pair (.int .i64) (.pair .bool (.pair (.int .i64) (.pair (.int .i64) .unit)))))))))), 1)]⟩, none, Tryz.f92, [(6, [0, 1, 2], [.tmp 7 (.lst (.pair .str (.pair .str (.pair .str (.pair .bool (.pair .str (.pair (.int .i64) (.pair .bool (.pair (.int .i64) (.pair (.int .i64) .unit)))))))))) true, .tmp 8 (.int .i64) false])]⟩
def e99 : Ent := ⟨⟨[((.lst (.pair .str (.pair .str (.pair .str (.pair .bool (.pair .str (.pair (.int .i64) (.pair .bool (.pair (.int .i64) (.pair (.int .i64) .unit)))))))))), 0), ((.pair .str (.pair .str (.pair .str (.pair .bool (.pair .str (.pair (.int .i64) (.pair .bool (.pair (.int .i64) (.pair (.int .i64) .unit))))))))), 0), ((.int .i64), 0)], [((.lst (.pair .str (.pair .str (.pair .str (.pair .bool (.pair .str (.pair (.int .i64) (.pair .bool (.pair (.int .i64) (.pair (.int .i64) .unit)))))))))), 1)]⟩, none, Tryz.f99, [(6, [0, 2, 4], [.tmp 7 (.lst (.pair .str (.pair .str (.pair .str (.pair .bool (.pair .str (.pair (.int .i64) (.pair .bool (.pair (.int .i64) (.pair (.int .i64) .unit)))))))))) true, .tmp 8 (.int .i64) false, .box (nm 4 0) (.pair .str (.pair .str (.pair .str (.pair .bool (.pair .str (.pair (.int .i64) (.pair .bool (.pair (.int .i64) (.pair (.int .i64) .unit))))))))) false]), (26, [7], [.tmp 9 (.int .i64) false, .tmp 10 (.int .i64) false]), (1000034, [7], [])]⟩
def e33 : Ent := ⟨⟨[((.lst (.pair .str (.pair .str (.pair .str (.pair .bool (.pair .str (.pair (.int .i64) (.pair .bool (.pair (.int .i64) (.pair (.int .i64) .unit)))))))))), 0), ((.pair .str (.pair .str (.pair .str (.pair .bool (.pair .str (.pair (.int .i64) (.pair .bool (.pair (.int .i64) (.pair (.int .i64) .unit))))))))), 0), ((.int .i64), 0)], [((.lst (.pair .str (.pair .str (.pair .str (.pair .bool (.pair .str (.pair (.int .i64) (.pair .bool (.pair (.int .i64) (.pair (.int .i64) .unit)))))))))), 1)]⟩, none, Tryz.f33, []⟩
def e162 : Ent := ⟨⟨[((.pair (.lst (.int .u8)) (.pair (.int .i64) .unit)), 1)], [((.lst (.pair .str (.pair .str (.pair .str (.pair .bool (.pair .str (.pair (.int .i64) (.pair .bool (.pair (.int .i64) (.pair (.int .i64) .unit)))))))))), 1)]⟩, none, Tryz.f162, [(6, [0], [.tmp 3 (.lst (.pair .str (.pair .str (.pair .str (.pair .bool (.pair .str (.pair (.int .i64) (.pair .bool (.pair (.int .i64) (.pair (.int .i64) .unit)))))))))) true, .tmp 4 (.int .i64) false, .box (pn 0 0) (.pair (.lst (.int .u8)) (.pair (.int .i64) .unit)) false]), (16, [], [.tmp 3 (.lst (.pair .str (.pair .str (.pair .str (.pair .bool (.pair .str (.pair (.int .i64) (.pair .bool (.pair (.int .i64) (.pair (.int .i64) .unit)))))))))) true, .tmp 5 (.int .i64) false])]⟩
def e93 : Ent := ⟨⟨[((.pair (.lst (.int .u8)) (.pair (.int .i64) .unit)), 1)], [((.pair .str (.pair .str (.pair .str (.pair .bool (.pair .str (.pair (.int .i64) (.pair .bool (.pair (.int .i64) (.pair (.int .i64) .unit))))))))), 1)]⟩, none, Tryz.f93, []⟩
def e72 : Ent := ⟨⟨[((.pair (.lst (.int .u8)) (.pair (.int .i64) .unit)), 1)], [((.lst (.pair .str (.pair .str (.pair .str (.pair .bool (.pair .str (.pair (.int .i64) (.pair .bool (.pair (.int .i64) (.pair (.int .i64) .unit)))))))))), 1)]⟩, none, Tryz.f72, []⟩
def e15 : Ent := ⟨⟨[((.lst (.int .u8)), 0)], [((.lst (.pair .str (.pair .str (.pair .str (.pair .bool (.pair .str (.pair (.int .i64) (.pair .bool (.pair (.int .i64) (.pair (.int .i64) .unit)))))))))), 1)]⟩, none, Tryz.f15, []⟩
def e229 : Ent := ⟨⟨[((.int .u8), 0)], [(.bool, 1)]⟩, none, Tryz.f229, []⟩
def e129 : Ent := ⟨⟨[((.int .i64), 0), ((.int .i64), 0), ((.int .i64), 0)], [(.bool, 1)]⟩, none, Tryz.f129, []⟩
def e266 : Ent := ⟨⟨[(.str, 0), (.str, 0)], [((.lst .str), 1)]⟩, some x_strings_Split, Tryz.f266, []⟩
def e231 : Ent := ⟨⟨[(.str, 0)], [((.lst .str), 1)]⟩, none, Tryz.f231, []⟩
def e265 : Ent := ⟨⟨[((.lst .str), 0), (.str, 0)], [((.int .i64), 1)]⟩, none, Tryz.f265, [(4, [0, 1, 7], [.tmp 8 (.int .i64) false])]⟩
def e230 : Ent := ⟨⟨[((.lst .str), 0), (.str, 0)], [(.bool, 1)]⟩, none, Tryz.f230, []⟩
def e170 : Ent := ⟨⟨[(.str, 0)], [(.bool, 1)]⟩, none, Tryz.f170, [(4, [0, 6], [.tmp 7 (.int .i64) false])]⟩
def e259 : Ent := ⟨⟨[(.str, 0), (.str, 0)], [(.bool, 1)]⟩, none, Tryz.f259, []⟩
def e221 : Ent := ⟨⟨[(.str, 0), (.str, 0)], [(.bool, 1)]⟩, none, Tryz.f221, []⟩
def e267 : Ent := ⟨⟨[((.int .u8), 0)], [((.int .i64), 1)]⟩, none, Tryz.f267, []⟩
def e232 : Ent := ⟨⟨[(.str, 0)], [((.int .i64), 1), (.bool, 1)]⟩, none, Tryz.f232, [(20, [0, 4, 32], [.tmp 5 (.int .i64) false, .tmp 33 (.int .i64) false])]⟩
def e171 : Ent := ⟨⟨[(.str, 0)], [(.bool, 1)]⟩, none, Tryz.f171, [(18, [4, 31], [.tmp 32 (.int .i64) false])]⟩
def e80 : Ent := ⟨⟨[(.str, 0)], [(.bool, 1)]⟩, none, Tryz.f80, []⟩
def e219 : Ent := ⟨⟨[(.str, 0)], [((.int .i64), 1), (.bool, 1)]⟩, none, Tryz.f219, [(12, [4, 21, 22], [.tmp 5 (.int .i64) false, .tmp 23 (.int .i64) false])]⟩
def e153 : Ent := ⟨⟨[((.pair (.int .i64) (.pair .str (.pair (.int .i64) .unit))), 0)], [(.bool, 1)]⟩, none, Tryz.f153, []⟩
def e154 : Ent := ⟨⟨[((.int .i64), 0)], [(.str, 1)]⟩, some x_strconv_Itoa, Tryz.f154, []⟩
def e74 : Ent := ⟨⟨[((.lst .str), 0), (.str, 0)], [(.str, 1)]⟩, some x_strings_Join, Tryz.f74, []⟩
def e67 : Ent := ⟨⟨[((.pair (.int .i64) (.pair .str (.pair (.int .i64) .unit))), 0)], [(.str, 1)]⟩, none, Tryz.f67, [(14, [1], [.tmp 3 (.lst .str) true, .tmp 4 (.int .i64) false])]⟩
def e150 : Ent := ⟨⟨[(.str, 0)], [(.bool, 1)]⟩, none, Tryz.f150, []⟩
def e220 : Ent := ⟨⟨[(.str, 0), ((.int .u8), 0)], [((.int .i64), 1)]⟩, some x_strings_IndexByte, Tryz.f220, []⟩
def e151 : Ent := ⟨⟨[(.str, 0)], [(.bool, 1)]⟩, none, Tryz.f151, [(4, [0, 6], [.tmp 7 (.int .i64) false])]⟩
def e152 : Ent := ⟨⟨[((.pair .str (.pair .str (.pair .str (.pair .bool (.pair .str (.pair (.int .i64) (.pair .bool (.pair (.int .i64) (.pair (.int .i64) .unit))))))))), 0)], [(.bool, 1)]⟩, none, Tryz.f152, []⟩
def e66 : Ent := ⟨⟨[((.pair .str (.pair .str (.pair .str (.pair .bool (.pair .str (.pair (.int .i64) (.pair .bool (.pair (.int .i64) (.pair (.int .i64) .unit))))))))), 0)], [(.bool, 1)]⟩, none, Tryz.f66, []⟩
def e96 : Ent := ⟨⟨[((.pair .str (.pair .str (.pair .str (.pair .bool (.pair .str (.pair (.int .i64) (.pair .bool (.pair (.int .i64) (.pair (.int .i64) .unit))))))))), 0), ((.pair .str (.pair .str (.pair .str (.pair .bool (.pair .str (.pair (.int .i64) (.pair .bool (.pair (.int .i64) (.pair (.int .i64) .unit))))))))), 0)], [(.bool, 1)]⟩, none, Tryz.f96, []⟩
def e34 : Ent := ⟨⟨[((.lst (.pair .str (.pair .str (.pair .str (.pair .bool (.pair .str (.pair (.int .i64) (.pair .bool (.pair (.int .i64) (.pair (.int .i64) .unit)))))))))), 0)], [(.bool, 1)]⟩, none, Tryz.f34, [(4, [0, 5, 6], [.tmp 7 (.int .i64) false])]⟩
def e16 : Ent := ⟨⟨[((.lst (.pair .str (.pair .str (.pair .str (.pair .bool (.pair .str (.pair (.int .i64) (.pair .bool (.pair (.int .i64) (.pair (.int .i64) .unit)))))))))), 0)], [(.str, 1)]⟩, none, Tryz.f16, [(10, [9, 10], [.tmp 3 (.lst .str) true, .tmp 11 (.int .i64) false])]⟩
def e17 : Ent := ⟨⟨[((.lst (.pair .str (.pair .str (.pair .str (.pair .bool (.pair .str (.pair (.int .i64) (.pair .bool (.pair (.int .i64) (.pair (.int .i64) .unit)))))))))), 0)], [(.str, 1)]⟩, none, Tryz.f17, [(6, [0], [.tmp 3 .str false, .tmp 4 (.int .i64) false])]⟩
def e3 : Ent := ⟨⟨[((.lst (.int .u8)), 0)], [(.bool, 1)]⟩, none, Tryz.f3, [(1000014, [3], [])]⟩
def Γ : Ctx := { tys := tys, globs := [], ents := [(73, e73), (86, e86), (77, e77), (202, e202), (252, e252), (201, e201), (205, e205), (253, e253), (285, e285), (286, e286), (287, e287), (254, e254), (255, e255), (309, e309), (304, e304), (308, e308), (269, e269), (248, e248), (281, e281), (249, e249), (235, e235), (104, e104), (191, e191), (234, e234), (283, e283), (310, e310), (288, e288), (312, e312), (324, e324), (311, e311), (289, e289), (256, e256), (203, e203), (174, e174), (206, e206), (217, e217), (146, e146), (207, e207), (121, e121), (204, e204), (120, e120), (194, e194), (247, e247), (116, e116), (122, e122), (46, e46), (277, e277), (149, e149), (278, e278), (302, e302), (279, e279), (303, e303), (280, e280), (102, e102), (218, e218), (82, e82), (147, e147), (103, e103), (101, e101), (35, e35), (246, e246), (190, e190), (75, e75), (18, e18), (145, e145), (92, e92), (99, e99), (33, e33), (162, e162), (93, e93), (72, e72), (15, e15), (229, e229), (129, e129), (266, e266), (231, e231), (265, e265), (230, e230), (170, e170), (259, e259), (221, e221), (267, e267), (232, e232), (171, e171), (80, e80), (219, e219), (153, e153), (154, e154), (74, e74), (67, e67), (150, e150), (220, e220), (151, e151), (152, e152), (66, e66), (96, e96), (34, e34), (16, e16), (17, e17), (3, e3)], eqs := eqs, ho := [(100, (1, (.pair .str (.pair .str (.pair .str (.pair .bool (.pair .str (.pair (.int .i64) (.pair .bool (.pair (.int .i64) (.pair (.int .i64) .unit)))))))))))], wf := WF 1 Tryz.prog, wfm := WF_mono 1 Tryz.prog }
def cs_l1Open (n : Nat) (x0 : List Int) : Option (((List Int) × Int × Unit) × Unit) := call Γ n 73 (x0, ())
def cs_l1Rd_pick (n : Nat) (x0 : (List Int) × Int × Unit) (x1 : Int) : Option (Int × ((List Int) × Int × Unit) × Unit) := call Γ n 86 (x0, x1, ())
def cs_l1Rd_of (n : Nat) (x0 : (List Int) × Int × Unit) (x1 : List Bs) : Option (Bs × ((List Int) × Int × Unit) × Unit) := call Γ n 77 (x0, x1, ())
def cs_l3Trim (n : Nat) (x0 : Bs) : Option (Bs × Unit) := call Γ n 202 (x0, ())
def cs_Lower (n : Nat) (x0 : Bs) : Option (Bs × Unit) := call Γ n 252 (x0, ())
def cs_l3Scheme (n : Nat) (x0 : Bs) : Option (Bs × Bs × Bool × Unit) := call Γ n 201 (x0, ())
def cs_l3Own (n : Nat) (x0 : Bs) : Option (Int × Unit) := call Γ n 205 (x0, ())
def cs_l1At (n : Nat) (x0 : Bs) (x1 : Bs) : Option (Int × Unit) := call Γ n 253 (x0, x1, ())
def cs_l1Set (n : Nat) (x0 : Int) : Option (Bs × Unit) := call Γ n 285 (x0, ())
def cs_l1Has (n : Nat) (x0 : Bs) (x1 : Int) : Option (Bool × Unit) := call Γ n 286 (x0, x1, ())
def cs_l1Figure (n : Nat) (x0 : Int) : Option (Int × Unit) := call Γ n 287 (x0, ())
def cs_Encode (n : Nat) (x0 : Int) (x1 : Bs) : Option (Bs × Unit) := call Γ n 254 (x0, x1, ())
def cs_l3Tail (n : Nat) (x0 : TUrl) (x1 : Bs) : Option (TUrl × Unit) := call Γ n 255 (x0, x1, ())
def cs_l3Who (n : Nat) (x0 : TUrl) (x1 : Bs) : Option (TUrl × Unit) := call Γ n 309 (x0, x1, ())
def cs_l1Hex (n : Nat) (x0 : Int) : Option (Int × Unit) := call Γ n 304 (x0, ())
def cs_Decode (n : Nat) (x0 : Bs) : Option (Bs × Unit) := call Γ n 308 (x0, ())
def cs_l1Cut (n : Nat) (x0 : Bs) (x1 : Int) : Option ((List Bs) × Unit) := call Γ n 269 (x0, x1, ())
def cs_l2Parts (n : Nat) (x0 : Bs) : Option ((List Bs) × Unit) := call Γ n 248 (x0, ())
def cs_l2Digits (n : Nat) (x0 : Bs) (x1 : Int) : Option (Int × Unit) := call Γ n 281 (x0, x1, ())
def cs_l2Part (n : Nat) (x0 : Bs) : Option (Int × Unit) := call Γ n 249 (x0, ())
def cs_l2Ends (n : Nat) (x0 : Bs) : Option (Bool × Unit) := call Γ n 235 (x0, ())
def cs_l1In (n : Nat) (x0 : Int) (x1 : Int) (x2 : Int) : Option (Bool × Unit) := call Γ n 104 (x0, x1, x2, ())
def cs_FourGet (n : Nat) (x0 : Bs) : Option (Int × Bool × Unit) := call Γ n 191 (x0, ())
def cs_l2Name (n : Nat) (x0 : Bs) : Option (Bool × Unit) := call Γ n 234 (x0, ())
def cs_HostGet (n : Nat) (x0 : Bs) : Option (THost × Bool × Unit) := call Γ n 283 (x0, ())
def cs_l3Port (n : Nat) (x0 : Bs) (x1 : Int) : Option (Int × Unit) := call Γ n 310 (x0, x1, ())
def cs_l3Authority (n : Nat) (x0 : TUrl) (x1 : Bs) : Option (TUrl × Bool × Unit) := call Γ n 288 (x0, x1, ())
def cs_l3Pieces (n : Nat) (x0 : Bs) : Option ((List Bs) × Unit) := call Γ n 312 (x0, ())
def cs_l3Dots (n : Nat) (x0 : Bs) : Option (Int × Unit) := call Γ n 324 (x0, ())
def cs_l3Walk (n : Nat) (x0 : List Bs) (x1 : List Bs) : Option ((List Bs) × Unit) := call Γ n 311 (x0, x1, ())
def cs_PathGet (n : Nat) (x0 : Bs) : Option ((List Bs) × Unit) := call Γ n 289 (x0, ())
def cs_l3Hosted (n : Nat) (x0 : TUrl) (x1 : Bs) : Option (TUrl × Bool × Unit) := call Γ n 256 (x0, x1, ())
def cs_l3Read (n : Nat) (x0 : Bs) (x1 : Bs) : Option (TUrl × Bool × Unit) := call Γ n 203 (x0, x1, ())
def cs_HostOk (n : Nat) (x0 : THost) : Option (Bool × Unit) := call Γ n 174 (x0, ())
def cs_l1Dec (n : Nat) (x0 : Int) : Option (Bs × Unit) := call Γ n 206 (x0, ())
def cs_l2Four (n : Nat) (x0 : Int) : Option (Bs × Unit) := call Γ n 217 (x0, ())
def cs_HostPut (n : Nat) (x0 : THost) : Option (Bs × Unit) := call Γ n 146 (x0, ())
def cs_PathPut (n : Nat) (x0 : List Bs) : Option (Bs × Unit) := call Γ n 207 (x0, ())
def cs_l3Put (n : Nat) (x0 : TUrl) : Option (Bs × Unit) := call Γ n 121 (x0, ())
def cs_l3Fits (n : Nat) (x0 : TUrl) : Option (Bool × Unit) := call Γ n 204 (x0, ())
def cs_UrlGet (n : Nat) (x0 : Bs) : Option (TUrl × Bool × Unit) := call Γ n 120 (x0, ())
def cs_l11Home (n : Nat) (x0 : (List Int) × Int × Unit) : Option (TUrl × ((List Int) × Int × Unit) × Unit) := call Γ n 194 (x0, ())
def cs_l11Says (n : Nat) (x0 : (List Int) × Int × Unit) : Option (Bs × ((List Int) × Int × Unit) × Unit) := call Γ n 247 (x0, ())
def cs_l1Rd_one (n : Nat) (x0 : (List Int) × Int × Unit) (x1 : List Int) : Option (Int × ((List Int) × Int × Unit) × Unit) := call Γ n 116 (x0, x1, ())
def cs_l3Equal (n : Nat) (x0 : TUrl) (x1 : TUrl) : Option (Bool × Unit) := call Γ n 122 (x0, x1, ())
def cs_UrlOk (n : Nat) (x0 : TUrl) : Option (Bool × Unit) := call Γ n 46 (x0, ())
def cs_l7Cut (n : Nat) (x0 : Bs) (x1 : Int) : Option ((List Bs) × Unit) := call Γ n 277 (x0, x1, ())
def cs_l7Path (n : Nat) (x0 : TUrl) : Option (Bs × Unit) := call Γ n 149 (x0, ())
def cs_PathOf (n : Nat) (x0 : TUrl) : Option (Bs × Unit) := call Γ n 278 (x0, ())
def cs_l7Trim (n : Nat) (x0 : Bs) : Option (Bs × Unit) := call Γ n 302 (x0, ())
def cs_l7Pair (n : Nat) (x0 : Bs) : Option (Bs × Bs × Unit) := call Γ n 279 (x0, ())
def cs_l7Age (n : Nat) (x0 : Bs) : Option (Int × Unit) := call Γ n 303 (x0, ())
def cs_l7Part (n : Nat) (x0 : TCookie) (x1 : Int) (x2 : Bs) (x3 : Bs) : Option (TCookie × Unit) := call Γ n 280 (x0, x1, x2, x3, ())
def cs_l7Crumb (n : Nat) (x0 : Bs) : Option (Bool × Unit) := call Γ n 102 (x0, ())
def cs_l7Ends (n : Nat) (x0 : Bs) (x1 : Bs) : Option (Bool × Unit) := call Γ n 218 (x0, x1, ())
def cs_l7Name (n : Nat) (x0 : Bs) : Option (Bool × Unit) := call Γ n 82 (x0, ())
def cs_DomainIn (n : Nat) (x0 : Bs) (x1 : Bs) : Option (Bool × Unit) := call Γ n 147 (x0, x1, ())
def cs_l7Prefix (n : Nat) (x0 : TCookie) : Option (Bool × Unit) := call Γ n 103 (x0, ())
def cs_l7Four (n : Nat) (x0 : Bs) : Option (Bool × Unit) := call Γ n 101 (x0, ())
def cs_CookieOk (n : Nat) (x0 : TCookie) : Option (Bool × Unit) := call Γ n 35 (x0, ())
def cs_CookieGet (n : Nat) (x0 : TUrl) (x1 : Bs) (x2 : Int) : Option (TCookie × Int × Unit) := call Γ n 246 (x0, x1, x2, ())
def cs_l11Cookie (n : Nat) (x0 : (List Int) × Int × Unit) : Option (TCookie × ((List Int) × Int × Unit) × Unit) := call Γ n 190 (x0, ())
def cs_l7Same (n : Nat) (x0 : TCookie) (x1 : TCookie) : Option (Bool × Unit) := call Γ n 75 (x0, x1, ())
def cs_JarOk (n : Nat) (x0 : List TCookie) : Option (Bool × Unit) := call Γ n 18 (x0, ())
def cs_l7Over (n : Nat) (x0 : TCookie) (x1 : Int) : Option (Bool × Unit) := call Γ n 145 (x0, x1, ())
def cs_l7Clean (n : Nat) (x0 : List TCookie) (x1 : Int) (x2 : Bool) : Option ((List TCookie) × Unit) := call Γ n 92 (x0, x1, x2, ())
def cs_l7Put (n : Nat) (x0 : List TCookie) (x1 : TCookie) (x2 : Int) : Option ((List TCookie) × Unit) := call Γ n 99 (x0, x1, x2, ())
def cs_JarPut (n : Nat) (x0 : List TCookie) (x1 : TCookie) (x2 : Int) : Option ((List TCookie) × Unit) := call Γ n 33 (x0, x1, x2, ())
def cs_l11Jar (n : Nat) (x0 : (List Int) × Int × Unit) : Option ((List TCookie) × ((List Int) × Int × Unit) × Unit) := call Γ n 162 (x0, ())
def cs_l11AnyCookie (n : Nat) (x0 : (List Int) × Int × Unit) : Option (TCookie × ((List Int) × Int × Unit) × Unit) := call Γ n 93 (x0, ())
def cs_l11AnyJar (n : Nat) (x0 : (List Int) × Int × Unit) : Option ((List TCookie) × ((List Int) × Int × Unit) × Unit) := call Γ n 72 (x0, ())
def cs_DrawJarText (n : Nat) (x0 : List Int) : Option ((List TCookie) × Unit) := call Γ n 15 (x0, ())
def ci_isDigit (n : Nat) (x0 : Int) : Option (Bool × Unit) := call Γ n 229 (x0, ())
def ci_in (n : Nat) (x0 : Int) (x1 : Int) (x2 : Int) : Option (Bool × Unit) := call Γ n 129 (x0, x1, x2, ())
def c_strings_Split (n : Nat) (x0 : Bs) (x1 : Bs) : Option ((List Bs) × Unit) := call Γ n 266 (x0, x1, ())
def ci_labels (n : Nat) (x0 : Bs) : Option ((List Bs) × Unit) := call Γ n 231 (x0, ())
def c_slices_Index_string (n : Nat) (x0 : List Bs) (x1 : Bs) : Option (Int × Unit) := call Γ n 265 (x0, x1, ())
def c_slices_Contains_string (n : Nat) (x0 : List Bs) (x1 : Bs) : Option (Bool × Unit) := call Γ n 230 (x0, x1, ())
def ci_isHostName (n : Nat) (x0 : Bs) : Option (Bool × Unit) := call Γ n 170 (x0, ())
def c_stringslite_HasPrefix (n : Nat) (x0 : Bs) (x1 : Bs) : Option (Bool × Unit) := call Γ n 259 (x0, x1, ())
def c_strings_HasPrefix (n : Nat) (x0 : Bs) (x1 : Bs) : Option (Bool × Unit) := call Γ n 221 (x0, x1, ())
def ci_hex (n : Nat) (x0 : Int) : Option (Int × Unit) := call Γ n 267 (x0, ())
def ci_labelNumber (n : Nat) (x0 : Bs) : Option (Int × Bool × Unit) := call Γ n 232 (x0, ())
def ci_endsInNumber (n : Nat) (x0 : Bs) : Option (Bool × Unit) := call Γ n 171 (x0, ())
def ci_plainName (n : Nat) (x0 : Bs) : Option (Bool × Unit) := call Γ n 80 (x0, ())
def ci_FourGet (n : Nat) (x0 : Bs) : Option (Int × Bool × Unit) := call Γ n 219 (x0, ())
def ci_HostOk (n : Nat) (x0 : THost) : Option (Bool × Unit) := call Γ n 153 (x0, ())
def c_strconv_Itoa (n : Nat) (x0 : Int) : Option (Bs × Unit) := call Γ n 154 (x0, ())
def c_strings_Join (n : Nat) (x0 : List Bs) (x1 : Bs) : Option (Bs × Unit) := call Γ n 74 (x0, x1, ())
def ci_HostPut (n : Nat) (x0 : THost) : Option (Bs × Unit) := call Γ n 67 (x0, ())
def ci_isFour (n : Nat) (x0 : Bs) : Option (Bool × Unit) := call Γ n 150 (x0, ())
def c_strings_IndexByte (n : Nat) (x0 : Bs) (x1 : Int) : Option (Int × Unit) := call Γ n 220 (x0, x1, ())
def ci_isToken (n : Nat) (x0 : Bs) : Option (Bool × Unit) := call Γ n 151 (x0, ())
def ci_Cookie_prefixOk (n : Nat) (x0 : TCookie) : Option (Bool × Unit) := call Γ n 152 (x0, ())
def ci_CookieOk (n : Nat) (x0 : TCookie) : Option (Bool × Unit) := call Γ n 66 (x0, ())
def ci_Cookie_twin (n : Nat) (x0 : TCookie) (x1 : TCookie) : Option (Bool × Unit) := call Γ n 96 (x0, x1, ())
def ci_JarOk (n : Nat) (x0 : List TCookie) : Option (Bool × Unit) := call Γ n 34 (x0, ())
def ci_JarText (n : Nat) (x0 : List TCookie) : Option (Bs × Unit) := call Γ n 16 (x0, ())
def cs_JarText (n : Nat) (x0 : List TCookie) : Option (Bs × Unit) := call Γ n 17 (x0, ())
def cl_FnJarText (n : Nat) (x0 : List Int) : Option (Bool × Unit) := call Γ n 3 (x0, ())
end
end Go.VM.T
