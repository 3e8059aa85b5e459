/-
  NARROWER THAN 'FOR EVERY INPUT', by the rows' own cells (each row's printed sentence says how): FnUrlBase: laid · FnUrlSame: laid · FnPathOf: laid · FnJoinFull: laid · FnRefer: laid · FnJoinEnd: laid · FnJoinHost: laid · FnJoinUp: laid · FnUrlLess: laid · FnJoinPath: laid · FnJoinRoot: laid · FnJoinSelf: laid · FnJoinParts: laid · FnJoinTwice: laid.
  DERIVED. THE GIVEN ROWS OF THIS SEAT. 14 by the template 'for every input the law returns true; each argument reads behind the call as it read before'; 0 by the template 'total and deterministic' (their statements: YtledackmlmokeaaGreatDoorTotals.lean).
  GIVEN WITH THE SEED: the statements are not yours to turn. If you find one false, say at which input.
  Laid BY PROGRAM, IN A SANDBOX (cutbox-rows.mjs): the forced cells as the released guide's own fill.sh prints them over the translation f36be47116895a88… (all of the seat's roots in one cut). By AI agents, Wed Nov 11 2026. No macro, syntax, notation, axiom, sorry.
-/
import Derived.Test.YtledackmlmokeaaGreatDoorChecked
import GoSem.PinnedTables
import GoSem.Claim
import GoSem.ClaimJoined
import GoSem.ClaimMapViews
import Derived.JoinedTies
import Derived.KernelRfl
namespace Go.Proofs.YtledackmlmokeaaGreatDoor
/- THE CELL 'sum', in the pinned program and in every row, IS THE sha256 OF THE DUMP (.gsa) THAT YtledackmlmokeaaGreatDoorProg.lean LOADS. Nothing in Lean hashes anything: it is a label: what it is worth is what the hold of that sum in a sandbox is worth. -/
noncomputable def Tryz.pinned : Pinned := { name := "ytledackmlmokeaagreatdoor", sum := "f36be47116895a884bbe86c98070360ec2a8036c09dfe6391f31e323e7a99c06", checked := Tryz.checked }
namespace Rows
def none {H : Type} : Left H := { results := [], args := [] }

/- WHAT THE LISTED PACKAGE-LEVEL VARIABLES READ AS WHEN THE CALL BEGINS. Each datum BY PROGRAM (the guide's laid-datum.mjs) off the statement by which the dump's own 'gosem.cut.vars' lays the variable. In a bare row this is a premise. The card (YtledackmlmokeaaGreatDoorCards.lean) ties it to the program's text. -/
def laid_math_bits_deBruijn32tab {H : Type} : DataW H := .agg [.lit (.int .u8 0), .lit (.int .u8 1), .lit (.int .u8 28), .lit (.int .u8 2), .lit (.int .u8 29), .lit (.int .u8 14), .lit (.int .u8 24), .lit (.int .u8 3), .lit (.int .u8 30), .lit (.int .u8 22), .lit (.int .u8 20), .lit (.int .u8 15), .lit (.int .u8 25), .lit (.int .u8 17), .lit (.int .u8 4), .lit (.int .u8 8), .lit (.int .u8 31), .lit (.int .u8 27), .lit (.int .u8 13), .lit (.int .u8 23), .lit (.int .u8 21), .lit (.int .u8 19), .lit (.int .u8 16), .lit (.int .u8 7), .lit (.int .u8 26), .lit (.int .u8 12), .lit (.int .u8 18), .lit (.int .u8 6), .lit (.int .u8 11), .lit (.int .u8 5), .lit (.int .u8 10), .lit (.int .u8 9)]
def laid_math_bits_deBruijn64tab {H : Type} : DataW H := .agg [.lit (.int .u8 0), .lit (.int .u8 1), .lit (.int .u8 56), .lit (.int .u8 2), .lit (.int .u8 57), .lit (.int .u8 49), .lit (.int .u8 28), .lit (.int .u8 3), .lit (.int .u8 61), .lit (.int .u8 58), .lit (.int .u8 42), .lit (.int .u8 50), .lit (.int .u8 38), .lit (.int .u8 29), .lit (.int .u8 17), .lit (.int .u8 4), .lit (.int .u8 62), .lit (.int .u8 47), .lit (.int .u8 59), .lit (.int .u8 36), .lit (.int .u8 45), .lit (.int .u8 43), .lit (.int .u8 51), .lit (.int .u8 22), .lit (.int .u8 53), .lit (.int .u8 39), .lit (.int .u8 33), .lit (.int .u8 30), .lit (.int .u8 24), .lit (.int .u8 18), .lit (.int .u8 12), .lit (.int .u8 5), .lit (.int .u8 63), .lit (.int .u8 55), .lit (.int .u8 48), .lit (.int .u8 27), .lit (.int .u8 60), .lit (.int .u8 41), .lit (.int .u8 37), .lit (.int .u8 16), .lit (.int .u8 46), .lit (.int .u8 35), .lit (.int .u8 44), .lit (.int .u8 21), .lit (.int .u8 52), .lit (.int .u8 32), .lit (.int .u8 23), .lit (.int .u8 11), .lit (.int .u8 54), .lit (.int .u8 26), .lit (.int .u8 40), .lit (.int .u8 15), .lit (.int .u8 34), .lit (.int .u8 20), .lit (.int .u8 31), .lit (.int .u8 10), .lit (.int .u8 25), .lit (.int .u8 14), .lit (.int .u8 19), .lit (.int .u8 9), .lit (.int .u8 13), .lit (.int .u8 8), .lit (.int .u8 7), .lit (.int .u8 6)]
def laid_internal_strconv_uint64pow10 {H : Type} : DataW H := .agg [.lit (.int .u64 1), .lit (.int .u64 10), .lit (.int .u64 100), .lit (.int .u64 1000), .lit (.int .u64 10000), .lit (.int .u64 100000), .lit (.int .u64 1000000), .lit (.int .u64 10000000), .lit (.int .u64 100000000), .lit (.int .u64 1000000000), .lit (.int .u64 10000000000), .lit (.int .u64 100000000000), .lit (.int .u64 1000000000000), .lit (.int .u64 10000000000000), .lit (.int .u64 100000000000000), .lit (.int .u64 1000000000000000), .lit (.int .u64 10000000000000000), .lit (.int .u64 100000000000000000), .lit (.int .u64 1000000000000000000), .lit (.int .u64 10000000000000000000)]
def laid_unicode_utf8_acceptRanges {H : Type} : DataW H := .agg [.agg [.lit (.int .u8 128), .lit (.int .u8 191)], .agg [.lit (.int .u8 160), .lit (.int .u8 191)], .agg [.lit (.int .u8 128), .lit (.int .u8 159)], .agg [.lit (.int .u8 144), .lit (.int .u8 191)], .agg [.lit (.int .u8 128), .lit (.int .u8 143)], .agg [.lit (.int .u8 0), .lit (.int .u8 0)], .agg [.lit (.int .u8 0), .lit (.int .u8 0)], .agg [.lit (.int .u8 0), .lit (.int .u8 0)], .agg [.lit (.int .u8 0), .lit (.int .u8 0)], .agg [.lit (.int .u8 0), .lit (.int .u8 0)], .agg [.lit (.int .u8 0), .lit (.int .u8 0)], .agg [.lit (.int .u8 0), .lit (.int .u8 0)], .agg [.lit (.int .u8 0), .lit (.int .u8 0)], .agg [.lit (.int .u8 0), .lit (.int .u8 0)], .agg [.lit (.int .u8 0), .lit (.int .u8 0)], .agg [.lit (.int .u8 0), .lit (.int .u8 0)]]
def laid_loop_example_guilloche_impl_sets {H : Type} : DataW H := .slice [.lit (.string []), .lit (.string [32, 34, 35, 60, 62, 63, 123, 125, 96]), .lit (.string [32, 34, 35, 60, 62, 39]), .lit (.string [32, 34, 60, 62, 96]), .lit (.string [32, 34, 35, 60, 62, 63, 123, 125, 96, 47, 58, 59, 61, 64, 91, 92, 93, 94, 124]), .lit (.string [32])] []
/-- One of Go's own tables, pinned by name: the form's constant. -/
def laid_unicode_utf8_first : DataW Unit := Go.Pinned.utf8First

/-- 'laws.FnUrlBase': WHATEVER THE INPUT: true; the input reads as it did. -/
def fnUrlBaseSpec : ChangeSpec := { name := "fnUrlBase", vars := ["loop.example/guilloche/impl.sets"], fn := fun _ => fun
  | [d, g1] => { results := [.lit (.bool true)], args := [d], vars := [g1] }
  | _ => none }
def fnUrlBaseRow : OpenClaim := { program := "ytledackmlmokeaagreatdoor", sum := "f36be47116895a884bbe86c98070360ec2a8036c09dfe6391f31e323e7a99c06", func := "loop.example/guilloche/laws.FnUrlBase", spec := "fnUrlBase", inPlace := ["internal/bytealg.CountString", "internal/bytealg.IndexByteString", "internal/bytealg.IndexString", "internal/abi.NoEscape", "internal/bytealg.MakeNoZero"], recurses := true, named := ["unicode/utf8.first", "unicode/utf8.acceptRanges", "internal/bytealg.MaxLen", "internal/strconv.uint64pow10", "math/bits.deBruijn32tab", "math/bits.deBruijn64tab", "loop.example/guilloche/impl.sets"], apart := false, laid := [("math/bits.deBruijn32tab", laid_math_bits_deBruijn32tab), ("math/bits.deBruijn64tab", laid_math_bits_deBruijn64tab), ("internal/strconv.uint64pow10", laid_internal_strconv_uint64pow10), ("unicode/utf8.acceptRanges", laid_unicode_utf8_acceptRanges), ("loop.example/guilloche/impl.sets", laid_loop_example_guilloche_impl_sets), ("unicode/utf8.first", laid_unicode_utf8_first)] }
def FnUrlBaseSaid : Prop := fnUrlBaseRow.holds Tryz.pinned (OpenSpec.ofChange fnUrlBaseSpec)

/-- ITS FALSE NEIGHBOUR: 'it returns false'. Refute it at one input. -/
def fnUrlBaseWrong : ChangeSpec := { name := "fnUrlBase", vars := ["loop.example/guilloche/impl.sets"], fn := fun _ => fun
  | [d, g1] => { results := [.lit (.bool false)], args := [d], vars := [g1] }
  | _ => none }
def FnUrlBaseWrongFalsely : Prop := fnUrlBaseRow.holds Tryz.pinned (OpenSpec.ofChange fnUrlBaseWrong)

/-- 'laws.FnUrlSame': WHATEVER THE INPUT: true; the input reads as it did. -/
def fnUrlSameSpec : ChangeSpec := { name := "fnUrlSame", vars := ["loop.example/guilloche/impl.sets"], fn := fun _ => fun
  | [d, g1] => { results := [.lit (.bool true)], args := [d], vars := [g1] }
  | _ => none }
def fnUrlSameRow : OpenClaim := { program := "ytledackmlmokeaagreatdoor", sum := "f36be47116895a884bbe86c98070360ec2a8036c09dfe6391f31e323e7a99c06", func := "loop.example/guilloche/laws.FnUrlSame", spec := "fnUrlSame", inPlace := ["internal/bytealg.CountString", "internal/bytealg.IndexByteString", "internal/bytealg.IndexString", "internal/abi.NoEscape", "internal/bytealg.MakeNoZero"], recurses := true, named := ["unicode/utf8.first", "unicode/utf8.acceptRanges", "internal/bytealg.MaxLen", "internal/strconv.uint64pow10", "math/bits.deBruijn32tab", "math/bits.deBruijn64tab", "loop.example/guilloche/impl.sets"], apart := false, laid := [("math/bits.deBruijn32tab", laid_math_bits_deBruijn32tab), ("math/bits.deBruijn64tab", laid_math_bits_deBruijn64tab), ("internal/strconv.uint64pow10", laid_internal_strconv_uint64pow10), ("unicode/utf8.acceptRanges", laid_unicode_utf8_acceptRanges), ("loop.example/guilloche/impl.sets", laid_loop_example_guilloche_impl_sets), ("unicode/utf8.first", laid_unicode_utf8_first)] }
def FnUrlSameSaid : Prop := fnUrlSameRow.holds Tryz.pinned (OpenSpec.ofChange fnUrlSameSpec)

/-- ITS FALSE NEIGHBOUR: 'it returns false'. Refute it at one input. -/
def fnUrlSameWrong : ChangeSpec := { name := "fnUrlSame", vars := ["loop.example/guilloche/impl.sets"], fn := fun _ => fun
  | [d, g1] => { results := [.lit (.bool false)], args := [d], vars := [g1] }
  | _ => none }
def FnUrlSameWrongFalsely : Prop := fnUrlSameRow.holds Tryz.pinned (OpenSpec.ofChange fnUrlSameWrong)

/-- 'laws.FnPathOf': WHATEVER THE INPUT: true; the input reads as it did. -/
def fnPathOfSpec : ChangeSpec := { name := "fnPathOf", vars := ["loop.example/guilloche/impl.sets"], fn := fun _ => fun
  | [d, g1] => { results := [.lit (.bool true)], args := [d], vars := [g1] }
  | _ => none }
def fnPathOfRow : OpenClaim := { program := "ytledackmlmokeaagreatdoor", sum := "f36be47116895a884bbe86c98070360ec2a8036c09dfe6391f31e323e7a99c06", func := "loop.example/guilloche/laws.FnPathOf", spec := "fnPathOf", inPlace := ["internal/bytealg.CountString", "internal/bytealg.IndexByteString", "internal/bytealg.IndexString", "internal/abi.NoEscape", "internal/bytealg.MakeNoZero"], recurses := true, named := ["unicode/utf8.first", "unicode/utf8.acceptRanges", "internal/bytealg.MaxLen", "internal/strconv.uint64pow10", "math/bits.deBruijn32tab", "math/bits.deBruijn64tab", "loop.example/guilloche/impl.sets"], apart := false, laid := [("math/bits.deBruijn32tab", laid_math_bits_deBruijn32tab), ("math/bits.deBruijn64tab", laid_math_bits_deBruijn64tab), ("internal/strconv.uint64pow10", laid_internal_strconv_uint64pow10), ("unicode/utf8.acceptRanges", laid_unicode_utf8_acceptRanges), ("loop.example/guilloche/impl.sets", laid_loop_example_guilloche_impl_sets), ("unicode/utf8.first", laid_unicode_utf8_first)] }
def FnPathOfSaid : Prop := fnPathOfRow.holds Tryz.pinned (OpenSpec.ofChange fnPathOfSpec)

/-- ITS FALSE NEIGHBOUR: 'it returns false'. Refute it at one input. -/
def fnPathOfWrong : ChangeSpec := { name := "fnPathOf", vars := ["loop.example/guilloche/impl.sets"], fn := fun _ => fun
  | [d, g1] => { results := [.lit (.bool false)], args := [d], vars := [g1] }
  | _ => none }
def FnPathOfWrongFalsely : Prop := fnPathOfRow.holds Tryz.pinned (OpenSpec.ofChange fnPathOfWrong)

/-- 'laws.FnJoinFull': WHATEVER THE INPUT: true; the input reads as it did. -/
def fnJoinFullSpec : ChangeSpec := { name := "fnJoinFull", vars := ["loop.example/guilloche/impl.sets"], fn := fun _ => fun
  | [d, g1] => { results := [.lit (.bool true)], args := [d], vars := [g1] }
  | _ => none }
def fnJoinFullRow : OpenClaim := { program := "ytledackmlmokeaagreatdoor", sum := "f36be47116895a884bbe86c98070360ec2a8036c09dfe6391f31e323e7a99c06", func := "loop.example/guilloche/laws.FnJoinFull", spec := "fnJoinFull", inPlace := ["internal/bytealg.CountString", "internal/bytealg.IndexByteString", "internal/bytealg.IndexString", "internal/abi.NoEscape", "internal/bytealg.MakeNoZero"], recurses := true, named := ["unicode/utf8.first", "unicode/utf8.acceptRanges", "internal/bytealg.MaxLen", "internal/strconv.uint64pow10", "math/bits.deBruijn32tab", "math/bits.deBruijn64tab", "loop.example/guilloche/impl.sets"], apart := false, laid := [("math/bits.deBruijn32tab", laid_math_bits_deBruijn32tab), ("math/bits.deBruijn64tab", laid_math_bits_deBruijn64tab), ("internal/strconv.uint64pow10", laid_internal_strconv_uint64pow10), ("unicode/utf8.acceptRanges", laid_unicode_utf8_acceptRanges), ("loop.example/guilloche/impl.sets", laid_loop_example_guilloche_impl_sets), ("unicode/utf8.first", laid_unicode_utf8_first)] }
def FnJoinFullSaid : Prop := fnJoinFullRow.holds Tryz.pinned (OpenSpec.ofChange fnJoinFullSpec)

/-- ITS FALSE NEIGHBOUR: 'it returns false'. Refute it at one input. -/
def fnJoinFullWrong : ChangeSpec := { name := "fnJoinFull", vars := ["loop.example/guilloche/impl.sets"], fn := fun _ => fun
  | [d, g1] => { results := [.lit (.bool false)], args := [d], vars := [g1] }
  | _ => none }
def FnJoinFullWrongFalsely : Prop := fnJoinFullRow.holds Tryz.pinned (OpenSpec.ofChange fnJoinFullWrong)

/-- 'laws.FnRefer': WHATEVER THE INPUT: true; the input reads as it did. -/
def fnReferSpec : ChangeSpec := { name := "fnRefer", vars := ["loop.example/guilloche/impl.sets"], fn := fun _ => fun
  | [d, g1] => { results := [.lit (.bool true)], args := [d], vars := [g1] }
  | _ => none }
def fnReferRow : OpenClaim := { program := "ytledackmlmokeaagreatdoor", sum := "f36be47116895a884bbe86c98070360ec2a8036c09dfe6391f31e323e7a99c06", func := "loop.example/guilloche/laws.FnRefer", spec := "fnRefer", inPlace := ["internal/bytealg.CountString", "internal/bytealg.IndexByteString", "internal/bytealg.IndexString", "internal/abi.NoEscape", "internal/bytealg.MakeNoZero"], recurses := true, named := ["unicode/utf8.first", "unicode/utf8.acceptRanges", "internal/bytealg.MaxLen", "internal/strconv.uint64pow10", "math/bits.deBruijn32tab", "math/bits.deBruijn64tab", "loop.example/guilloche/impl.sets"], apart := false, laid := [("math/bits.deBruijn32tab", laid_math_bits_deBruijn32tab), ("math/bits.deBruijn64tab", laid_math_bits_deBruijn64tab), ("internal/strconv.uint64pow10", laid_internal_strconv_uint64pow10), ("unicode/utf8.acceptRanges", laid_unicode_utf8_acceptRanges), ("loop.example/guilloche/impl.sets", laid_loop_example_guilloche_impl_sets), ("unicode/utf8.first", laid_unicode_utf8_first)] }
def FnReferSaid : Prop := fnReferRow.holds Tryz.pinned (OpenSpec.ofChange fnReferSpec)

/-- ITS FALSE NEIGHBOUR: 'it returns false'. Refute it at one input. -/
def fnReferWrong : ChangeSpec := { name := "fnRefer", vars := ["loop.example/guilloche/impl.sets"], fn := fun _ => fun
  | [d, g1] => { results := [.lit (.bool false)], args := [d], vars := [g1] }
  | _ => none }
def FnReferWrongFalsely : Prop := fnReferRow.holds Tryz.pinned (OpenSpec.ofChange fnReferWrong)

/-- 'laws.FnJoinEnd': WHATEVER THE INPUT: true; the input reads as it did. -/
def fnJoinEndSpec : ChangeSpec := { name := "fnJoinEnd", vars := ["loop.example/guilloche/impl.sets"], fn := fun _ => fun
  | [d, g1] => { results := [.lit (.bool true)], args := [d], vars := [g1] }
  | _ => none }
def fnJoinEndRow : OpenClaim := { program := "ytledackmlmokeaagreatdoor", sum := "f36be47116895a884bbe86c98070360ec2a8036c09dfe6391f31e323e7a99c06", func := "loop.example/guilloche/laws.FnJoinEnd", spec := "fnJoinEnd", inPlace := ["internal/bytealg.CountString", "internal/bytealg.IndexByteString", "internal/bytealg.IndexString", "internal/abi.NoEscape", "internal/bytealg.MakeNoZero"], recurses := true, named := ["unicode/utf8.first", "unicode/utf8.acceptRanges", "internal/bytealg.MaxLen", "internal/strconv.uint64pow10", "math/bits.deBruijn32tab", "math/bits.deBruijn64tab", "loop.example/guilloche/impl.sets"], apart := false, laid := [("math/bits.deBruijn32tab", laid_math_bits_deBruijn32tab), ("math/bits.deBruijn64tab", laid_math_bits_deBruijn64tab), ("internal/strconv.uint64pow10", laid_internal_strconv_uint64pow10), ("unicode/utf8.acceptRanges", laid_unicode_utf8_acceptRanges), ("loop.example/guilloche/impl.sets", laid_loop_example_guilloche_impl_sets), ("unicode/utf8.first", laid_unicode_utf8_first)] }
def FnJoinEndSaid : Prop := fnJoinEndRow.holds Tryz.pinned (OpenSpec.ofChange fnJoinEndSpec)

/-- ITS FALSE NEIGHBOUR: 'it returns false'. Refute it at one input. -/
def fnJoinEndWrong : ChangeSpec := { name := "fnJoinEnd", vars := ["loop.example/guilloche/impl.sets"], fn := fun _ => fun
  | [d, g1] => { results := [.lit (.bool false)], args := [d], vars := [g1] }
  | _ => none }
def FnJoinEndWrongFalsely : Prop := fnJoinEndRow.holds Tryz.pinned (OpenSpec.ofChange fnJoinEndWrong)

/-- 'laws.FnJoinHost': WHATEVER THE INPUT: true; the input reads as it did. -/
def fnJoinHostSpec : ChangeSpec := { name := "fnJoinHost", vars := ["loop.example/guilloche/impl.sets"], fn := fun _ => fun
  | [d, g1] => { results := [.lit (.bool true)], args := [d], vars := [g1] }
  | _ => none }
def fnJoinHostRow : OpenClaim := { program := "ytledackmlmokeaagreatdoor", sum := "f36be47116895a884bbe86c98070360ec2a8036c09dfe6391f31e323e7a99c06", func := "loop.example/guilloche/laws.FnJoinHost", spec := "fnJoinHost", inPlace := ["internal/bytealg.CountString", "internal/bytealg.IndexByteString", "internal/bytealg.IndexString", "internal/abi.NoEscape", "internal/bytealg.MakeNoZero"], recurses := true, named := ["unicode/utf8.first", "unicode/utf8.acceptRanges", "internal/bytealg.MaxLen", "internal/strconv.uint64pow10", "math/bits.deBruijn32tab", "math/bits.deBruijn64tab", "loop.example/guilloche/impl.sets"], apart := false, laid := [("math/bits.deBruijn32tab", laid_math_bits_deBruijn32tab), ("math/bits.deBruijn64tab", laid_math_bits_deBruijn64tab), ("internal/strconv.uint64pow10", laid_internal_strconv_uint64pow10), ("unicode/utf8.acceptRanges", laid_unicode_utf8_acceptRanges), ("loop.example/guilloche/impl.sets", laid_loop_example_guilloche_impl_sets), ("unicode/utf8.first", laid_unicode_utf8_first)] }
def FnJoinHostSaid : Prop := fnJoinHostRow.holds Tryz.pinned (OpenSpec.ofChange fnJoinHostSpec)

/-- ITS FALSE NEIGHBOUR: 'it returns false'. Refute it at one input. -/
def fnJoinHostWrong : ChangeSpec := { name := "fnJoinHost", vars := ["loop.example/guilloche/impl.sets"], fn := fun _ => fun
  | [d, g1] => { results := [.lit (.bool false)], args := [d], vars := [g1] }
  | _ => none }
def FnJoinHostWrongFalsely : Prop := fnJoinHostRow.holds Tryz.pinned (OpenSpec.ofChange fnJoinHostWrong)

/-- 'laws.FnJoinUp': WHATEVER THE INPUT: true; the input reads as it did. -/
def fnJoinUpSpec : ChangeSpec := { name := "fnJoinUp", vars := ["loop.example/guilloche/impl.sets"], fn := fun _ => fun
  | [d, g1] => { results := [.lit (.bool true)], args := [d], vars := [g1] }
  | _ => none }
def fnJoinUpRow : OpenClaim := { program := "ytledackmlmokeaagreatdoor", sum := "f36be47116895a884bbe86c98070360ec2a8036c09dfe6391f31e323e7a99c06", func := "loop.example/guilloche/laws.FnJoinUp", spec := "fnJoinUp", inPlace := ["internal/bytealg.CountString", "internal/bytealg.IndexByteString", "internal/bytealg.IndexString", "internal/abi.NoEscape", "internal/bytealg.MakeNoZero"], recurses := true, named := ["unicode/utf8.first", "unicode/utf8.acceptRanges", "internal/bytealg.MaxLen", "internal/strconv.uint64pow10", "math/bits.deBruijn32tab", "math/bits.deBruijn64tab", "loop.example/guilloche/impl.sets"], apart := false, laid := [("math/bits.deBruijn32tab", laid_math_bits_deBruijn32tab), ("math/bits.deBruijn64tab", laid_math_bits_deBruijn64tab), ("internal/strconv.uint64pow10", laid_internal_strconv_uint64pow10), ("unicode/utf8.acceptRanges", laid_unicode_utf8_acceptRanges), ("loop.example/guilloche/impl.sets", laid_loop_example_guilloche_impl_sets), ("unicode/utf8.first", laid_unicode_utf8_first)] }
def FnJoinUpSaid : Prop := fnJoinUpRow.holds Tryz.pinned (OpenSpec.ofChange fnJoinUpSpec)

/-- ITS FALSE NEIGHBOUR: 'it returns false'. Refute it at one input. -/
def fnJoinUpWrong : ChangeSpec := { name := "fnJoinUp", vars := ["loop.example/guilloche/impl.sets"], fn := fun _ => fun
  | [d, g1] => { results := [.lit (.bool false)], args := [d], vars := [g1] }
  | _ => none }
def FnJoinUpWrongFalsely : Prop := fnJoinUpRow.holds Tryz.pinned (OpenSpec.ofChange fnJoinUpWrong)

/-- 'laws.FnUrlLess': WHATEVER THE INPUT: true; the input reads as it did. -/
def fnUrlLessSpec : ChangeSpec := { name := "fnUrlLess", vars := ["loop.example/guilloche/impl.sets"], fn := fun _ => fun
  | [d, g1] => { results := [.lit (.bool true)], args := [d], vars := [g1] }
  | _ => none }
def fnUrlLessRow : OpenClaim := { program := "ytledackmlmokeaagreatdoor", sum := "f36be47116895a884bbe86c98070360ec2a8036c09dfe6391f31e323e7a99c06", func := "loop.example/guilloche/laws.FnUrlLess", spec := "fnUrlLess", inPlace := ["internal/bytealg.CountString", "internal/bytealg.IndexByteString", "internal/bytealg.IndexString", "internal/abi.NoEscape", "internal/bytealg.MakeNoZero"], recurses := true, named := ["unicode/utf8.first", "unicode/utf8.acceptRanges", "internal/bytealg.MaxLen", "internal/strconv.uint64pow10", "math/bits.deBruijn32tab", "math/bits.deBruijn64tab", "loop.example/guilloche/impl.sets"], apart := false, laid := [("math/bits.deBruijn32tab", laid_math_bits_deBruijn32tab), ("math/bits.deBruijn64tab", laid_math_bits_deBruijn64tab), ("internal/strconv.uint64pow10", laid_internal_strconv_uint64pow10), ("unicode/utf8.acceptRanges", laid_unicode_utf8_acceptRanges), ("loop.example/guilloche/impl.sets", laid_loop_example_guilloche_impl_sets), ("unicode/utf8.first", laid_unicode_utf8_first)] }
def FnUrlLessSaid : Prop := fnUrlLessRow.holds Tryz.pinned (OpenSpec.ofChange fnUrlLessSpec)

/-- ITS FALSE NEIGHBOUR: 'it returns false'. Refute it at one input. -/
def fnUrlLessWrong : ChangeSpec := { name := "fnUrlLess", vars := ["loop.example/guilloche/impl.sets"], fn := fun _ => fun
  | [d, g1] => { results := [.lit (.bool false)], args := [d], vars := [g1] }
  | _ => none }
def FnUrlLessWrongFalsely : Prop := fnUrlLessRow.holds Tryz.pinned (OpenSpec.ofChange fnUrlLessWrong)

/-- 'laws.FnJoinPath': WHATEVER THE INPUT: true; the input reads as it did. -/
def fnJoinPathSpec : ChangeSpec := { name := "fnJoinPath", vars := ["loop.example/guilloche/impl.sets"], fn := fun _ => fun
  | [d, g1] => { results := [.lit (.bool true)], args := [d], vars := [g1] }
  | _ => none }
def fnJoinPathRow : OpenClaim := { program := "ytledackmlmokeaagreatdoor", sum := "f36be47116895a884bbe86c98070360ec2a8036c09dfe6391f31e323e7a99c06", func := "loop.example/guilloche/laws.FnJoinPath", spec := "fnJoinPath", inPlace := ["internal/bytealg.CountString", "internal/bytealg.IndexByteString", "internal/bytealg.IndexString", "internal/abi.NoEscape", "internal/bytealg.MakeNoZero"], recurses := true, named := ["unicode/utf8.first", "unicode/utf8.acceptRanges", "internal/bytealg.MaxLen", "internal/strconv.uint64pow10", "math/bits.deBruijn32tab", "math/bits.deBruijn64tab", "loop.example/guilloche/impl.sets"], apart := false, laid := [("math/bits.deBruijn32tab", laid_math_bits_deBruijn32tab), ("math/bits.deBruijn64tab", laid_math_bits_deBruijn64tab), ("internal/strconv.uint64pow10", laid_internal_strconv_uint64pow10), ("unicode/utf8.acceptRanges", laid_unicode_utf8_acceptRanges), ("loop.example/guilloche/impl.sets", laid_loop_example_guilloche_impl_sets), ("unicode/utf8.first", laid_unicode_utf8_first)] }
def FnJoinPathSaid : Prop := fnJoinPathRow.holds Tryz.pinned (OpenSpec.ofChange fnJoinPathSpec)

/-- ITS FALSE NEIGHBOUR: 'it returns false'. Refute it at one input. -/
def fnJoinPathWrong : ChangeSpec := { name := "fnJoinPath", vars := ["loop.example/guilloche/impl.sets"], fn := fun _ => fun
  | [d, g1] => { results := [.lit (.bool false)], args := [d], vars := [g1] }
  | _ => none }
def FnJoinPathWrongFalsely : Prop := fnJoinPathRow.holds Tryz.pinned (OpenSpec.ofChange fnJoinPathWrong)

/-- 'laws.FnJoinRoot': WHATEVER THE INPUT: true; the input reads as it did. -/
def fnJoinRootSpec : ChangeSpec := { name := "fnJoinRoot", vars := ["loop.example/guilloche/impl.sets"], fn := fun _ => fun
  | [d, g1] => { results := [.lit (.bool true)], args := [d], vars := [g1] }
  | _ => none }
def fnJoinRootRow : OpenClaim := { program := "ytledackmlmokeaagreatdoor", sum := "f36be47116895a884bbe86c98070360ec2a8036c09dfe6391f31e323e7a99c06", func := "loop.example/guilloche/laws.FnJoinRoot", spec := "fnJoinRoot", inPlace := ["internal/bytealg.CountString", "internal/bytealg.IndexByteString", "internal/bytealg.IndexString", "internal/abi.NoEscape", "internal/bytealg.MakeNoZero"], recurses := true, named := ["unicode/utf8.first", "unicode/utf8.acceptRanges", "internal/bytealg.MaxLen", "internal/strconv.uint64pow10", "math/bits.deBruijn32tab", "math/bits.deBruijn64tab", "loop.example/guilloche/impl.sets"], apart := false, laid := [("math/bits.deBruijn32tab", laid_math_bits_deBruijn32tab), ("math/bits.deBruijn64tab", laid_math_bits_deBruijn64tab), ("internal/strconv.uint64pow10", laid_internal_strconv_uint64pow10), ("unicode/utf8.acceptRanges", laid_unicode_utf8_acceptRanges), ("loop.example/guilloche/impl.sets", laid_loop_example_guilloche_impl_sets), ("unicode/utf8.first", laid_unicode_utf8_first)] }
def FnJoinRootSaid : Prop := fnJoinRootRow.holds Tryz.pinned (OpenSpec.ofChange fnJoinRootSpec)

/-- ITS FALSE NEIGHBOUR: 'it returns false'. Refute it at one input. -/
def fnJoinRootWrong : ChangeSpec := { name := "fnJoinRoot", vars := ["loop.example/guilloche/impl.sets"], fn := fun _ => fun
  | [d, g1] => { results := [.lit (.bool false)], args := [d], vars := [g1] }
  | _ => none }
def FnJoinRootWrongFalsely : Prop := fnJoinRootRow.holds Tryz.pinned (OpenSpec.ofChange fnJoinRootWrong)

/-- 'laws.FnJoinSelf': WHATEVER THE INPUT: true; the input reads as it did. -/
def fnJoinSelfSpec : ChangeSpec := { name := "fnJoinSelf", vars := ["loop.example/guilloche/impl.sets"], fn := fun _ => fun
  | [d, g1] => { results := [.lit (.bool true)], args := [d], vars := [g1] }
  | _ => none }
def fnJoinSelfRow : OpenClaim := { program := "ytledackmlmokeaagreatdoor", sum := "f36be47116895a884bbe86c98070360ec2a8036c09dfe6391f31e323e7a99c06", func := "loop.example/guilloche/laws.FnJoinSelf", spec := "fnJoinSelf", inPlace := ["internal/bytealg.CountString", "internal/bytealg.IndexByteString", "internal/bytealg.IndexString", "internal/abi.NoEscape", "internal/bytealg.MakeNoZero"], recurses := true, named := ["unicode/utf8.first", "unicode/utf8.acceptRanges", "internal/bytealg.MaxLen", "internal/strconv.uint64pow10", "math/bits.deBruijn32tab", "math/bits.deBruijn64tab", "loop.example/guilloche/impl.sets"], apart := false, laid := [("math/bits.deBruijn32tab", laid_math_bits_deBruijn32tab), ("math/bits.deBruijn64tab", laid_math_bits_deBruijn64tab), ("internal/strconv.uint64pow10", laid_internal_strconv_uint64pow10), ("unicode/utf8.acceptRanges", laid_unicode_utf8_acceptRanges), ("loop.example/guilloche/impl.sets", laid_loop_example_guilloche_impl_sets), ("unicode/utf8.first", laid_unicode_utf8_first)] }
def FnJoinSelfSaid : Prop := fnJoinSelfRow.holds Tryz.pinned (OpenSpec.ofChange fnJoinSelfSpec)

/-- ITS FALSE NEIGHBOUR: 'it returns false'. Refute it at one input. -/
def fnJoinSelfWrong : ChangeSpec := { name := "fnJoinSelf", vars := ["loop.example/guilloche/impl.sets"], fn := fun _ => fun
  | [d, g1] => { results := [.lit (.bool false)], args := [d], vars := [g1] }
  | _ => none }
def FnJoinSelfWrongFalsely : Prop := fnJoinSelfRow.holds Tryz.pinned (OpenSpec.ofChange fnJoinSelfWrong)

/-- 'laws.FnJoinParts': WHATEVER THE INPUT: true; the input reads as it did. -/
def fnJoinPartsSpec : ChangeSpec := { name := "fnJoinParts", vars := ["loop.example/guilloche/impl.sets"], fn := fun _ => fun
  | [d, g1] => { results := [.lit (.bool true)], args := [d], vars := [g1] }
  | _ => none }
def fnJoinPartsRow : OpenClaim := { program := "ytledackmlmokeaagreatdoor", sum := "f36be47116895a884bbe86c98070360ec2a8036c09dfe6391f31e323e7a99c06", func := "loop.example/guilloche/laws.FnJoinParts", spec := "fnJoinParts", inPlace := ["internal/bytealg.CountString", "internal/bytealg.IndexByteString", "internal/bytealg.IndexString", "internal/abi.NoEscape", "internal/bytealg.MakeNoZero"], recurses := true, named := ["unicode/utf8.first", "unicode/utf8.acceptRanges", "internal/bytealg.MaxLen", "internal/strconv.uint64pow10", "math/bits.deBruijn32tab", "math/bits.deBruijn64tab", "loop.example/guilloche/impl.sets"], apart := false, laid := [("math/bits.deBruijn32tab", laid_math_bits_deBruijn32tab), ("math/bits.deBruijn64tab", laid_math_bits_deBruijn64tab), ("internal/strconv.uint64pow10", laid_internal_strconv_uint64pow10), ("unicode/utf8.acceptRanges", laid_unicode_utf8_acceptRanges), ("loop.example/guilloche/impl.sets", laid_loop_example_guilloche_impl_sets), ("unicode/utf8.first", laid_unicode_utf8_first)] }
def FnJoinPartsSaid : Prop := fnJoinPartsRow.holds Tryz.pinned (OpenSpec.ofChange fnJoinPartsSpec)

/-- ITS FALSE NEIGHBOUR: 'it returns false'. Refute it at one input. -/
def fnJoinPartsWrong : ChangeSpec := { name := "fnJoinParts", vars := ["loop.example/guilloche/impl.sets"], fn := fun _ => fun
  | [d, g1] => { results := [.lit (.bool false)], args := [d], vars := [g1] }
  | _ => none }
def FnJoinPartsWrongFalsely : Prop := fnJoinPartsRow.holds Tryz.pinned (OpenSpec.ofChange fnJoinPartsWrong)

/-- 'laws.FnJoinTwice': WHATEVER THE INPUT: true; the input reads as it did. -/
def fnJoinTwiceSpec : ChangeSpec := { name := "fnJoinTwice", vars := ["loop.example/guilloche/impl.sets"], fn := fun _ => fun
  | [d, g1] => { results := [.lit (.bool true)], args := [d], vars := [g1] }
  | _ => none }
def fnJoinTwiceRow : OpenClaim := { program := "ytledackmlmokeaagreatdoor", sum := "f36be47116895a884bbe86c98070360ec2a8036c09dfe6391f31e323e7a99c06", func := "loop.example/guilloche/laws.FnJoinTwice", spec := "fnJoinTwice", inPlace := ["internal/bytealg.CountString", "internal/bytealg.IndexByteString", "internal/bytealg.IndexString", "internal/abi.NoEscape", "internal/bytealg.MakeNoZero"], recurses := true, named := ["unicode/utf8.first", "unicode/utf8.acceptRanges", "internal/bytealg.MaxLen", "internal/strconv.uint64pow10", "math/bits.deBruijn32tab", "math/bits.deBruijn64tab", "loop.example/guilloche/impl.sets"], apart := false, laid := [("math/bits.deBruijn32tab", laid_math_bits_deBruijn32tab), ("math/bits.deBruijn64tab", laid_math_bits_deBruijn64tab), ("internal/strconv.uint64pow10", laid_internal_strconv_uint64pow10), ("unicode/utf8.acceptRanges", laid_unicode_utf8_acceptRanges), ("loop.example/guilloche/impl.sets", laid_loop_example_guilloche_impl_sets), ("unicode/utf8.first", laid_unicode_utf8_first)] }
def FnJoinTwiceSaid : Prop := fnJoinTwiceRow.holds Tryz.pinned (OpenSpec.ofChange fnJoinTwiceSpec)

/-- ITS FALSE NEIGHBOUR: 'it returns false'. Refute it at one input. -/
def fnJoinTwiceWrong : ChangeSpec := { name := "fnJoinTwice", vars := ["loop.example/guilloche/impl.sets"], fn := fun _ => fun
  | [d, g1] => { results := [.lit (.bool false)], args := [d], vars := [g1] }
  | _ => none }
def FnJoinTwiceWrongFalsely : Prop := fnJoinTwiceRow.holds Tryz.pinned (OpenSpec.ofChange fnJoinTwiceWrong)

/- THE SECOND FORM. 'bulk': how many values and letters a reading holds, each counted each time it is reached (what is shared counts as often as it is met; a slice's spare places count too). A statement '..UptoSaid' is the law's where the arguments, and the package variables that the reading takes, are together of bulk at most 1048576: NARROWER than '..Said'. Prove '..Said' where nothing that the law and all that it calls make is longer than what came in: it says more and counts as full. Else prove '..UptoSaid'. A law counts once. -/
mutual
def uptoBulk {H : Type} : DataW H → Nat
  | .lit (.string bytes) => bytes.length + 1
  | .lit _ => 1
  | .nil => 1
  | .ptr d => uptoBulk d + 1
  | .slice elems spare => uptoBulkAll elems + uptoBulkAll spare + 1
  | .agg parts => uptoBulkAll parts + 1
  | .iface _ d => uptoBulk d + 1
  | .map entries => uptoBulkEntries entries + 1
  | .held _ => 1
def uptoBulkAll {H : Type} : List (DataW H) → Nat
  | [] => 0
  | d :: r => uptoBulk d + uptoBulkAll r
def uptoBulkEntries {H : Type} : List (Lit × DataW H) → Nat
  | [] => 0
  | x :: r => uptoBulkEntry x + uptoBulkEntries r
def uptoBulkEntry {H : Type} : Lit × DataW H → Nat
  | (.string bytes, d) => bytes.length + uptoBulk d + 1
  | (_, d) => uptoBulk d + 1
 end
def uptoSmall : (H : Type) → List (DataW H) → Bool := fun _ ds => decide (uptoBulkAll ds ≤ 1048576)
def OpenSpec.upto (s : _root_.Go.ChangeSpec) : _root_.Go.OpenSpec := { _root_.Go.OpenSpec.ofChange s with cond := some uptoSmall }

/-- 'laws.FnUrlBase', WHERE WHAT IT READS IS OF BULK AT MOST 1048576: true; the input reads as it did. -/
def fnUrlBaseUptoRow : OpenClaim := { program := "ytledackmlmokeaagreatdoor", sum := "f36be47116895a884bbe86c98070360ec2a8036c09dfe6391f31e323e7a99c06", func := "loop.example/guilloche/laws.FnUrlBase", spec := "fnUrlBase", inPlace := ["internal/bytealg.CountString", "internal/bytealg.IndexByteString", "internal/bytealg.IndexString", "internal/abi.NoEscape", "internal/bytealg.MakeNoZero"], recurses := true, named := ["unicode/utf8.first", "unicode/utf8.acceptRanges", "internal/bytealg.MaxLen", "internal/strconv.uint64pow10", "math/bits.deBruijn32tab", "math/bits.deBruijn64tab", "loop.example/guilloche/impl.sets"], apart := false, laid := [("math/bits.deBruijn32tab", laid_math_bits_deBruijn32tab), ("math/bits.deBruijn64tab", laid_math_bits_deBruijn64tab), ("internal/strconv.uint64pow10", laid_internal_strconv_uint64pow10), ("unicode/utf8.acceptRanges", laid_unicode_utf8_acceptRanges), ("loop.example/guilloche/impl.sets", laid_loop_example_guilloche_impl_sets), ("unicode/utf8.first", laid_unicode_utf8_first)], narrowed := true }
def FnUrlBaseUptoSaid : Prop := fnUrlBaseUptoRow.holds Tryz.pinned (OpenSpec.upto fnUrlBaseSpec)

/-- 'laws.FnUrlSame', WHERE WHAT IT READS IS OF BULK AT MOST 1048576: true; the input reads as it did. -/
def fnUrlSameUptoRow : OpenClaim := { program := "ytledackmlmokeaagreatdoor", sum := "f36be47116895a884bbe86c98070360ec2a8036c09dfe6391f31e323e7a99c06", func := "loop.example/guilloche/laws.FnUrlSame", spec := "fnUrlSame", inPlace := ["internal/bytealg.CountString", "internal/bytealg.IndexByteString", "internal/bytealg.IndexString", "internal/abi.NoEscape", "internal/bytealg.MakeNoZero"], recurses := true, named := ["unicode/utf8.first", "unicode/utf8.acceptRanges", "internal/bytealg.MaxLen", "internal/strconv.uint64pow10", "math/bits.deBruijn32tab", "math/bits.deBruijn64tab", "loop.example/guilloche/impl.sets"], apart := false, laid := [("math/bits.deBruijn32tab", laid_math_bits_deBruijn32tab), ("math/bits.deBruijn64tab", laid_math_bits_deBruijn64tab), ("internal/strconv.uint64pow10", laid_internal_strconv_uint64pow10), ("unicode/utf8.acceptRanges", laid_unicode_utf8_acceptRanges), ("loop.example/guilloche/impl.sets", laid_loop_example_guilloche_impl_sets), ("unicode/utf8.first", laid_unicode_utf8_first)], narrowed := true }
def FnUrlSameUptoSaid : Prop := fnUrlSameUptoRow.holds Tryz.pinned (OpenSpec.upto fnUrlSameSpec)

/-- 'laws.FnPathOf', WHERE WHAT IT READS IS OF BULK AT MOST 1048576: true; the input reads as it did. -/
def fnPathOfUptoRow : OpenClaim := { program := "ytledackmlmokeaagreatdoor", sum := "f36be47116895a884bbe86c98070360ec2a8036c09dfe6391f31e323e7a99c06", func := "loop.example/guilloche/laws.FnPathOf", spec := "fnPathOf", inPlace := ["internal/bytealg.CountString", "internal/bytealg.IndexByteString", "internal/bytealg.IndexString", "internal/abi.NoEscape", "internal/bytealg.MakeNoZero"], recurses := true, named := ["unicode/utf8.first", "unicode/utf8.acceptRanges", "internal/bytealg.MaxLen", "internal/strconv.uint64pow10", "math/bits.deBruijn32tab", "math/bits.deBruijn64tab", "loop.example/guilloche/impl.sets"], apart := false, laid := [("math/bits.deBruijn32tab", laid_math_bits_deBruijn32tab), ("math/bits.deBruijn64tab", laid_math_bits_deBruijn64tab), ("internal/strconv.uint64pow10", laid_internal_strconv_uint64pow10), ("unicode/utf8.acceptRanges", laid_unicode_utf8_acceptRanges), ("loop.example/guilloche/impl.sets", laid_loop_example_guilloche_impl_sets), ("unicode/utf8.first", laid_unicode_utf8_first)], narrowed := true }
def FnPathOfUptoSaid : Prop := fnPathOfUptoRow.holds Tryz.pinned (OpenSpec.upto fnPathOfSpec)

/-- 'laws.FnJoinFull', WHERE WHAT IT READS IS OF BULK AT MOST 1048576: true; the input reads as it did. -/
def fnJoinFullUptoRow : OpenClaim := { program := "ytledackmlmokeaagreatdoor", sum := "f36be47116895a884bbe86c98070360ec2a8036c09dfe6391f31e323e7a99c06", func := "loop.example/guilloche/laws.FnJoinFull", spec := "fnJoinFull", inPlace := ["internal/bytealg.CountString", "internal/bytealg.IndexByteString", "internal/bytealg.IndexString", "internal/abi.NoEscape", "internal/bytealg.MakeNoZero"], recurses := true, named := ["unicode/utf8.first", "unicode/utf8.acceptRanges", "internal/bytealg.MaxLen", "internal/strconv.uint64pow10", "math/bits.deBruijn32tab", "math/bits.deBruijn64tab", "loop.example/guilloche/impl.sets"], apart := false, laid := [("math/bits.deBruijn32tab", laid_math_bits_deBruijn32tab), ("math/bits.deBruijn64tab", laid_math_bits_deBruijn64tab), ("internal/strconv.uint64pow10", laid_internal_strconv_uint64pow10), ("unicode/utf8.acceptRanges", laid_unicode_utf8_acceptRanges), ("loop.example/guilloche/impl.sets", laid_loop_example_guilloche_impl_sets), ("unicode/utf8.first", laid_unicode_utf8_first)], narrowed := true }
def FnJoinFullUptoSaid : Prop := fnJoinFullUptoRow.holds Tryz.pinned (OpenSpec.upto fnJoinFullSpec)

/-- 'laws.FnRefer', WHERE WHAT IT READS IS OF BULK AT MOST 1048576: true; the input reads as it did. -/
def fnReferUptoRow : OpenClaim := { program := "ytledackmlmokeaagreatdoor", sum := "f36be47116895a884bbe86c98070360ec2a8036c09dfe6391f31e323e7a99c06", func := "loop.example/guilloche/laws.FnRefer", spec := "fnRefer", inPlace := ["internal/bytealg.CountString", "internal/bytealg.IndexByteString", "internal/bytealg.IndexString", "internal/abi.NoEscape", "internal/bytealg.MakeNoZero"], recurses := true, named := ["unicode/utf8.first", "unicode/utf8.acceptRanges", "internal/bytealg.MaxLen", "internal/strconv.uint64pow10", "math/bits.deBruijn32tab", "math/bits.deBruijn64tab", "loop.example/guilloche/impl.sets"], apart := false, laid := [("math/bits.deBruijn32tab", laid_math_bits_deBruijn32tab), ("math/bits.deBruijn64tab", laid_math_bits_deBruijn64tab), ("internal/strconv.uint64pow10", laid_internal_strconv_uint64pow10), ("unicode/utf8.acceptRanges", laid_unicode_utf8_acceptRanges), ("loop.example/guilloche/impl.sets", laid_loop_example_guilloche_impl_sets), ("unicode/utf8.first", laid_unicode_utf8_first)], narrowed := true }
def FnReferUptoSaid : Prop := fnReferUptoRow.holds Tryz.pinned (OpenSpec.upto fnReferSpec)

/-- 'laws.FnJoinEnd', WHERE WHAT IT READS IS OF BULK AT MOST 1048576: true; the input reads as it did. -/
def fnJoinEndUptoRow : OpenClaim := { program := "ytledackmlmokeaagreatdoor", sum := "f36be47116895a884bbe86c98070360ec2a8036c09dfe6391f31e323e7a99c06", func := "loop.example/guilloche/laws.FnJoinEnd", spec := "fnJoinEnd", inPlace := ["internal/bytealg.CountString", "internal/bytealg.IndexByteString", "internal/bytealg.IndexString", "internal/abi.NoEscape", "internal/bytealg.MakeNoZero"], recurses := true, named := ["unicode/utf8.first", "unicode/utf8.acceptRanges", "internal/bytealg.MaxLen", "internal/strconv.uint64pow10", "math/bits.deBruijn32tab", "math/bits.deBruijn64tab", "loop.example/guilloche/impl.sets"], apart := false, laid := [("math/bits.deBruijn32tab", laid_math_bits_deBruijn32tab), ("math/bits.deBruijn64tab", laid_math_bits_deBruijn64tab), ("internal/strconv.uint64pow10", laid_internal_strconv_uint64pow10), ("unicode/utf8.acceptRanges", laid_unicode_utf8_acceptRanges), ("loop.example/guilloche/impl.sets", laid_loop_example_guilloche_impl_sets), ("unicode/utf8.first", laid_unicode_utf8_first)], narrowed := true }
def FnJoinEndUptoSaid : Prop := fnJoinEndUptoRow.holds Tryz.pinned (OpenSpec.upto fnJoinEndSpec)

/-- 'laws.FnJoinHost', WHERE WHAT IT READS IS OF BULK AT MOST 1048576: true; the input reads as it did. -/
def fnJoinHostUptoRow : OpenClaim := { program := "ytledackmlmokeaagreatdoor", sum := "f36be47116895a884bbe86c98070360ec2a8036c09dfe6391f31e323e7a99c06", func := "loop.example/guilloche/laws.FnJoinHost", spec := "fnJoinHost", inPlace := ["internal/bytealg.CountString", "internal/bytealg.IndexByteString", "internal/bytealg.IndexString", "internal/abi.NoEscape", "internal/bytealg.MakeNoZero"], recurses := true, named := ["unicode/utf8.first", "unicode/utf8.acceptRanges", "internal/bytealg.MaxLen", "internal/strconv.uint64pow10", "math/bits.deBruijn32tab", "math/bits.deBruijn64tab", "loop.example/guilloche/impl.sets"], apart := false, laid := [("math/bits.deBruijn32tab", laid_math_bits_deBruijn32tab), ("math/bits.deBruijn64tab", laid_math_bits_deBruijn64tab), ("internal/strconv.uint64pow10", laid_internal_strconv_uint64pow10), ("unicode/utf8.acceptRanges", laid_unicode_utf8_acceptRanges), ("loop.example/guilloche/impl.sets", laid_loop_example_guilloche_impl_sets), ("unicode/utf8.first", laid_unicode_utf8_first)], narrowed := true }
def FnJoinHostUptoSaid : Prop := fnJoinHostUptoRow.holds Tryz.pinned (OpenSpec.upto fnJoinHostSpec)

/-- 'laws.FnJoinUp', WHERE WHAT IT READS IS OF BULK AT MOST 1048576: true; the input reads as it did. -/
def fnJoinUpUptoRow : OpenClaim := { program := "ytledackmlmokeaagreatdoor", sum := "f36be47116895a884bbe86c98070360ec2a8036c09dfe6391f31e323e7a99c06", func := "loop.example/guilloche/laws.FnJoinUp", spec := "fnJoinUp", inPlace := ["internal/bytealg.CountString", "internal/bytealg.IndexByteString", "internal/bytealg.IndexString", "internal/abi.NoEscape", "internal/bytealg.MakeNoZero"], recurses := true, named := ["unicode/utf8.first", "unicode/utf8.acceptRanges", "internal/bytealg.MaxLen", "internal/strconv.uint64pow10", "math/bits.deBruijn32tab", "math/bits.deBruijn64tab", "loop.example/guilloche/impl.sets"], apart := false, laid := [("math/bits.deBruijn32tab", laid_math_bits_deBruijn32tab), ("math/bits.deBruijn64tab", laid_math_bits_deBruijn64tab), ("internal/strconv.uint64pow10", laid_internal_strconv_uint64pow10), ("unicode/utf8.acceptRanges", laid_unicode_utf8_acceptRanges), ("loop.example/guilloche/impl.sets", laid_loop_example_guilloche_impl_sets), ("unicode/utf8.first", laid_unicode_utf8_first)], narrowed := true }
def FnJoinUpUptoSaid : Prop := fnJoinUpUptoRow.holds Tryz.pinned (OpenSpec.upto fnJoinUpSpec)

/-- 'laws.FnUrlLess', WHERE WHAT IT READS IS OF BULK AT MOST 1048576: true; the input reads as it did. -/
def fnUrlLessUptoRow : OpenClaim := { program := "ytledackmlmokeaagreatdoor", sum := "f36be47116895a884bbe86c98070360ec2a8036c09dfe6391f31e323e7a99c06", func := "loop.example/guilloche/laws.FnUrlLess", spec := "fnUrlLess", inPlace := ["internal/bytealg.CountString", "internal/bytealg.IndexByteString", "internal/bytealg.IndexString", "internal/abi.NoEscape", "internal/bytealg.MakeNoZero"], recurses := true, named := ["unicode/utf8.first", "unicode/utf8.acceptRanges", "internal/bytealg.MaxLen", "internal/strconv.uint64pow10", "math/bits.deBruijn32tab", "math/bits.deBruijn64tab", "loop.example/guilloche/impl.sets"], apart := false, laid := [("math/bits.deBruijn32tab", laid_math_bits_deBruijn32tab), ("math/bits.deBruijn64tab", laid_math_bits_deBruijn64tab), ("internal/strconv.uint64pow10", laid_internal_strconv_uint64pow10), ("unicode/utf8.acceptRanges", laid_unicode_utf8_acceptRanges), ("loop.example/guilloche/impl.sets", laid_loop_example_guilloche_impl_sets), ("unicode/utf8.first", laid_unicode_utf8_first)], narrowed := true }
def FnUrlLessUptoSaid : Prop := fnUrlLessUptoRow.holds Tryz.pinned (OpenSpec.upto fnUrlLessSpec)

/-- 'laws.FnJoinPath', WHERE WHAT IT READS IS OF BULK AT MOST 1048576: true; the input reads as it did. -/
def fnJoinPathUptoRow : OpenClaim := { program := "ytledackmlmokeaagreatdoor", sum := "f36be47116895a884bbe86c98070360ec2a8036c09dfe6391f31e323e7a99c06", func := "loop.example/guilloche/laws.FnJoinPath", spec := "fnJoinPath", inPlace := ["internal/bytealg.CountString", "internal/bytealg.IndexByteString", "internal/bytealg.IndexString", "internal/abi.NoEscape", "internal/bytealg.MakeNoZero"], recurses := true, named := ["unicode/utf8.first", "unicode/utf8.acceptRanges", "internal/bytealg.MaxLen", "internal/strconv.uint64pow10", "math/bits.deBruijn32tab", "math/bits.deBruijn64tab", "loop.example/guilloche/impl.sets"], apart := false, laid := [("math/bits.deBruijn32tab", laid_math_bits_deBruijn32tab), ("math/bits.deBruijn64tab", laid_math_bits_deBruijn64tab), ("internal/strconv.uint64pow10", laid_internal_strconv_uint64pow10), ("unicode/utf8.acceptRanges", laid_unicode_utf8_acceptRanges), ("loop.example/guilloche/impl.sets", laid_loop_example_guilloche_impl_sets), ("unicode/utf8.first", laid_unicode_utf8_first)], narrowed := true }
def FnJoinPathUptoSaid : Prop := fnJoinPathUptoRow.holds Tryz.pinned (OpenSpec.upto fnJoinPathSpec)

/-- 'laws.FnJoinRoot', WHERE WHAT IT READS IS OF BULK AT MOST 1048576: true; the input reads as it did. -/
def fnJoinRootUptoRow : OpenClaim := { program := "ytledackmlmokeaagreatdoor", sum := "f36be47116895a884bbe86c98070360ec2a8036c09dfe6391f31e323e7a99c06", func := "loop.example/guilloche/laws.FnJoinRoot", spec := "fnJoinRoot", inPlace := ["internal/bytealg.CountString", "internal/bytealg.IndexByteString", "internal/bytealg.IndexString", "internal/abi.NoEscape", "internal/bytealg.MakeNoZero"], recurses := true, named := ["unicode/utf8.first", "unicode/utf8.acceptRanges", "internal/bytealg.MaxLen", "internal/strconv.uint64pow10", "math/bits.deBruijn32tab", "math/bits.deBruijn64tab", "loop.example/guilloche/impl.sets"], apart := false, laid := [("math/bits.deBruijn32tab", laid_math_bits_deBruijn32tab), ("math/bits.deBruijn64tab", laid_math_bits_deBruijn64tab), ("internal/strconv.uint64pow10", laid_internal_strconv_uint64pow10), ("unicode/utf8.acceptRanges", laid_unicode_utf8_acceptRanges), ("loop.example/guilloche/impl.sets", laid_loop_example_guilloche_impl_sets), ("unicode/utf8.first", laid_unicode_utf8_first)], narrowed := true }
def FnJoinRootUptoSaid : Prop := fnJoinRootUptoRow.holds Tryz.pinned (OpenSpec.upto fnJoinRootSpec)

/-- 'laws.FnJoinSelf', WHERE WHAT IT READS IS OF BULK AT MOST 1048576: true; the input reads as it did. -/
def fnJoinSelfUptoRow : OpenClaim := { program := "ytledackmlmokeaagreatdoor", sum := "f36be47116895a884bbe86c98070360ec2a8036c09dfe6391f31e323e7a99c06", func := "loop.example/guilloche/laws.FnJoinSelf", spec := "fnJoinSelf", inPlace := ["internal/bytealg.CountString", "internal/bytealg.IndexByteString", "internal/bytealg.IndexString", "internal/abi.NoEscape", "internal/bytealg.MakeNoZero"], recurses := true, named := ["unicode/utf8.first", "unicode/utf8.acceptRanges", "internal/bytealg.MaxLen", "internal/strconv.uint64pow10", "math/bits.deBruijn32tab", "math/bits.deBruijn64tab", "loop.example/guilloche/impl.sets"], apart := false, laid := [("math/bits.deBruijn32tab", laid_math_bits_deBruijn32tab), ("math/bits.deBruijn64tab", laid_math_bits_deBruijn64tab), ("internal/strconv.uint64pow10", laid_internal_strconv_uint64pow10), ("unicode/utf8.acceptRanges", laid_unicode_utf8_acceptRanges), ("loop.example/guilloche/impl.sets", laid_loop_example_guilloche_impl_sets), ("unicode/utf8.first", laid_unicode_utf8_first)], narrowed := true }
def FnJoinSelfUptoSaid : Prop := fnJoinSelfUptoRow.holds Tryz.pinned (OpenSpec.upto fnJoinSelfSpec)

/-- 'laws.FnJoinParts', WHERE WHAT IT READS IS OF BULK AT MOST 1048576: true; the input reads as it did. -/
def fnJoinPartsUptoRow : OpenClaim := { program := "ytledackmlmokeaagreatdoor", sum := "f36be47116895a884bbe86c98070360ec2a8036c09dfe6391f31e323e7a99c06", func := "loop.example/guilloche/laws.FnJoinParts", spec := "fnJoinParts", inPlace := ["internal/bytealg.CountString", "internal/bytealg.IndexByteString", "internal/bytealg.IndexString", "internal/abi.NoEscape", "internal/bytealg.MakeNoZero"], recurses := true, named := ["unicode/utf8.first", "unicode/utf8.acceptRanges", "internal/bytealg.MaxLen", "internal/strconv.uint64pow10", "math/bits.deBruijn32tab", "math/bits.deBruijn64tab", "loop.example/guilloche/impl.sets"], apart := false, laid := [("math/bits.deBruijn32tab", laid_math_bits_deBruijn32tab), ("math/bits.deBruijn64tab", laid_math_bits_deBruijn64tab), ("internal/strconv.uint64pow10", laid_internal_strconv_uint64pow10), ("unicode/utf8.acceptRanges", laid_unicode_utf8_acceptRanges), ("loop.example/guilloche/impl.sets", laid_loop_example_guilloche_impl_sets), ("unicode/utf8.first", laid_unicode_utf8_first)], narrowed := true }
def FnJoinPartsUptoSaid : Prop := fnJoinPartsUptoRow.holds Tryz.pinned (OpenSpec.upto fnJoinPartsSpec)

/-- 'laws.FnJoinTwice', WHERE WHAT IT READS IS OF BULK AT MOST 1048576: true; the input reads as it did. -/
def fnJoinTwiceUptoRow : OpenClaim := { program := "ytledackmlmokeaagreatdoor", sum := "f36be47116895a884bbe86c98070360ec2a8036c09dfe6391f31e323e7a99c06", func := "loop.example/guilloche/laws.FnJoinTwice", spec := "fnJoinTwice", inPlace := ["internal/bytealg.CountString", "internal/bytealg.IndexByteString", "internal/bytealg.IndexString", "internal/abi.NoEscape", "internal/bytealg.MakeNoZero"], recurses := true, named := ["unicode/utf8.first", "unicode/utf8.acceptRanges", "internal/bytealg.MaxLen", "internal/strconv.uint64pow10", "math/bits.deBruijn32tab", "math/bits.deBruijn64tab", "loop.example/guilloche/impl.sets"], apart := false, laid := [("math/bits.deBruijn32tab", laid_math_bits_deBruijn32tab), ("math/bits.deBruijn64tab", laid_math_bits_deBruijn64tab), ("internal/strconv.uint64pow10", laid_internal_strconv_uint64pow10), ("unicode/utf8.acceptRanges", laid_unicode_utf8_acceptRanges), ("loop.example/guilloche/impl.sets", laid_loop_example_guilloche_impl_sets), ("unicode/utf8.first", laid_unicode_utf8_first)], narrowed := true }
def FnJoinTwiceUptoSaid : Prop := fnJoinTwiceUptoRow.holds Tryz.pinned (OpenSpec.upto fnJoinTwiceSpec)

end Rows
end Go.Proofs.YtledackmlmokeaaGreatDoor
