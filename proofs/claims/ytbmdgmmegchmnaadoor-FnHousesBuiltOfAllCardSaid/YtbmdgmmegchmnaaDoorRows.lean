/-
  NARROWER THAN 'FOR EVERY INPUT', by the rows' own cells (each row's printed sentence says how): FnExactMovingText: laid · FnExactFlightText: laid · FnExactHouseText: laid · FnExactParseMoving: laid · FnExactParseFlight: laid · FnExactParseHouse: laid · FnRisersFitOfAll: laid · FnHousesBuiltOfAll: laid · FnMovingTimedOfAll: laid.
  DERIVED. THE GIVEN ROWS OF THIS SEAT. 9 by the template 'for every input the law returns true; each argument reads behind the call as it read before'; 0 by the template 'total and deterministic' (their statements: YtbmdgmmegchmnaaDoorTotals.lean).
  GIVEN WITH THE SEED: the statements are not yours to turn. If you find one false, say at which input.
  Laid BY PROGRAM, IN A SANDBOX (cutbox-rows.mjs): the forced cells as the released guide's own fill.sh prints them over the translation dc96ed5849c8af4c… (all of the seat's roots in one cut). By AI agents, Wed Nov 11 2026. No macro, syntax, notation, axiom, sorry.
-/
import Derived.Test.YtbmdgmmegchmnaaDoorChecked
import GoSem.PinnedTables
import GoSem.Claim
import GoSem.ClaimJoined
import GoSem.ClaimMapViews
import Derived.JoinedTies
import Derived.KernelRfl
namespace Go.Proofs.YtbmdgmmegchmnaaDoor
/- THE CELL 'sum', in the pinned program and in every row, IS THE sha256 OF THE DUMP (.gsa) THAT YtbmdgmmegchmnaaDoorProg.lean LOADS. Nothing in Lean hashes anything: it is a label: what it is worth is what the hold of that sum in a sandbox is worth. -/
noncomputable def Tryd.pinned : Pinned := { name := "ytbmdgmmegchmnaadoor", sum := "dc96ed5849c8af4c2346d9e41a97f16c26723ffdb10c27f60d9a18dd0b2a9340", checked := Tryd.checked }
namespace Rows
def none {H : Type} : Left H := { results := [], args := [] }

/- WHAT THE LISTED PACKAGE-LEVEL VARIABLES READ AS WHEN THE CALL BEGINS. Each datum BY PROGRAM (the guide's laid-datum.mjs) off the statement by which the dump's own 'gosem.cut.vars' lays the variable. In a bare row this is a premise. The card (YtbmdgmmegchmnaaDoorCards.lean) ties it to the program's text. -/
def laid_math_bits_deBruijn32tab {H : Type} : DataW H := .agg [.lit (.int .u8 0), .lit (.int .u8 1), .lit (.int .u8 28), .lit (.int .u8 2), .lit (.int .u8 29), .lit (.int .u8 14), .lit (.int .u8 24), .lit (.int .u8 3), .lit (.int .u8 30), .lit (.int .u8 22), .lit (.int .u8 20), .lit (.int .u8 15), .lit (.int .u8 25), .lit (.int .u8 17), .lit (.int .u8 4), .lit (.int .u8 8), .lit (.int .u8 31), .lit (.int .u8 27), .lit (.int .u8 13), .lit (.int .u8 23), .lit (.int .u8 21), .lit (.int .u8 19), .lit (.int .u8 16), .lit (.int .u8 7), .lit (.int .u8 26), .lit (.int .u8 12), .lit (.int .u8 18), .lit (.int .u8 6), .lit (.int .u8 11), .lit (.int .u8 5), .lit (.int .u8 10), .lit (.int .u8 9)]
def laid_math_bits_deBruijn64tab {H : Type} : DataW H := .agg [.lit (.int .u8 0), .lit (.int .u8 1), .lit (.int .u8 56), .lit (.int .u8 2), .lit (.int .u8 57), .lit (.int .u8 49), .lit (.int .u8 28), .lit (.int .u8 3), .lit (.int .u8 61), .lit (.int .u8 58), .lit (.int .u8 42), .lit (.int .u8 50), .lit (.int .u8 38), .lit (.int .u8 29), .lit (.int .u8 17), .lit (.int .u8 4), .lit (.int .u8 62), .lit (.int .u8 47), .lit (.int .u8 59), .lit (.int .u8 36), .lit (.int .u8 45), .lit (.int .u8 43), .lit (.int .u8 51), .lit (.int .u8 22), .lit (.int .u8 53), .lit (.int .u8 39), .lit (.int .u8 33), .lit (.int .u8 30), .lit (.int .u8 24), .lit (.int .u8 18), .lit (.int .u8 12), .lit (.int .u8 5), .lit (.int .u8 63), .lit (.int .u8 55), .lit (.int .u8 48), .lit (.int .u8 27), .lit (.int .u8 60), .lit (.int .u8 41), .lit (.int .u8 37), .lit (.int .u8 16), .lit (.int .u8 46), .lit (.int .u8 35), .lit (.int .u8 44), .lit (.int .u8 21), .lit (.int .u8 52), .lit (.int .u8 32), .lit (.int .u8 23), .lit (.int .u8 11), .lit (.int .u8 54), .lit (.int .u8 26), .lit (.int .u8 40), .lit (.int .u8 15), .lit (.int .u8 34), .lit (.int .u8 20), .lit (.int .u8 31), .lit (.int .u8 10), .lit (.int .u8 25), .lit (.int .u8 14), .lit (.int .u8 19), .lit (.int .u8 9), .lit (.int .u8 13), .lit (.int .u8 8), .lit (.int .u8 7), .lit (.int .u8 6)]
def laid_internal_strconv_uint64pow10 {H : Type} : DataW H := .agg [.lit (.int .u64 1), .lit (.int .u64 10), .lit (.int .u64 100), .lit (.int .u64 1000), .lit (.int .u64 10000), .lit (.int .u64 100000), .lit (.int .u64 1000000), .lit (.int .u64 10000000), .lit (.int .u64 100000000), .lit (.int .u64 1000000000), .lit (.int .u64 10000000000), .lit (.int .u64 100000000000), .lit (.int .u64 1000000000000), .lit (.int .u64 10000000000000), .lit (.int .u64 100000000000000), .lit (.int .u64 1000000000000000), .lit (.int .u64 10000000000000000), .lit (.int .u64 100000000000000000), .lit (.int .u64 1000000000000000000), .lit (.int .u64 10000000000000000000)]
def laid_strconv_ErrRange {H : Type} : DataW H := .iface "*errors.errorString" (.ptr (.agg [.lit (.string [118, 97, 108, 117, 101, 32, 111, 117, 116, 32, 111, 102, 32, 114, 97, 110, 103, 101])]))
def laid_strconv_ErrSyntax {H : Type} : DataW H := .iface "*errors.errorString" (.ptr (.agg [.lit (.string [105, 110, 118, 97, 108, 105, 100, 32, 115, 121, 110, 116, 97, 120])]))
def laid_unicode_utf8_acceptRanges {H : Type} : DataW H := .agg [.agg [.lit (.int .u8 128), .lit (.int .u8 191)], .agg [.lit (.int .u8 160), .lit (.int .u8 191)], .agg [.lit (.int .u8 128), .lit (.int .u8 159)], .agg [.lit (.int .u8 144), .lit (.int .u8 191)], .agg [.lit (.int .u8 128), .lit (.int .u8 143)], .agg [.lit (.int .u8 0), .lit (.int .u8 0)], .agg [.lit (.int .u8 0), .lit (.int .u8 0)], .agg [.lit (.int .u8 0), .lit (.int .u8 0)], .agg [.lit (.int .u8 0), .lit (.int .u8 0)], .agg [.lit (.int .u8 0), .lit (.int .u8 0)], .agg [.lit (.int .u8 0), .lit (.int .u8 0)], .agg [.lit (.int .u8 0), .lit (.int .u8 0)], .agg [.lit (.int .u8 0), .lit (.int .u8 0)], .agg [.lit (.int .u8 0), .lit (.int .u8 0)], .agg [.lit (.int .u8 0), .lit (.int .u8 0)], .agg [.lit (.int .u8 0), .lit (.int .u8 0)]]
/-- One of Go's own tables, pinned by name: the form's constant. -/
def laid_unicode_utf8_first : DataW Unit := Go.Pinned.utf8First

/-- 'laws.FnExactMovingText': WHATEVER THE INPUT: true; the input reads as it did. -/
def fnExactMovingTextSpec : ChangeSpec := { name := "fnExactMovingText", fn := fun _ => fun
  | [d] => { results := [.lit (.bool true)], args := [d] }
  | _ => none }
def fnExactMovingTextRow : OpenClaim := { program := "ytbmdgmmegchmnaadoor", sum := "dc96ed5849c8af4c2346d9e41a97f16c26723ffdb10c27f60d9a18dd0b2a9340", func := "loop.example/g01374/laws.FnExactMovingText", spec := "fnExactMovingText", recurses := true, named := ["internal/strconv.uint64pow10", "math/bits.deBruijn32tab", "math/bits.deBruijn64tab"], apart := false, laid := [("math/bits.deBruijn32tab", laid_math_bits_deBruijn32tab), ("math/bits.deBruijn64tab", laid_math_bits_deBruijn64tab), ("internal/strconv.uint64pow10", laid_internal_strconv_uint64pow10)] }
def FnExactMovingTextSaid : Prop := fnExactMovingTextRow.holds Tryd.pinned (OpenSpec.ofChange fnExactMovingTextSpec)

/-- ITS FALSE NEIGHBOUR: 'it returns false'. Refute it at one input. -/
def fnExactMovingTextWrong : ChangeSpec := { name := "fnExactMovingText", fn := fun _ => fun
  | [d] => { results := [.lit (.bool false)], args := [d] }
  | _ => none }
def FnExactMovingTextWrongFalsely : Prop := fnExactMovingTextRow.holds Tryd.pinned (OpenSpec.ofChange fnExactMovingTextWrong)

/-- 'laws.FnExactFlightText': WHATEVER THE INPUT: true; the input reads as it did. -/
def fnExactFlightTextSpec : ChangeSpec := { name := "fnExactFlightText", fn := fun _ => fun
  | [d] => { results := [.lit (.bool true)], args := [d] }
  | _ => none }
def fnExactFlightTextRow : OpenClaim := { program := "ytbmdgmmegchmnaadoor", sum := "dc96ed5849c8af4c2346d9e41a97f16c26723ffdb10c27f60d9a18dd0b2a9340", func := "loop.example/g01374/laws.FnExactFlightText", spec := "fnExactFlightText", recurses := true, named := ["internal/strconv.uint64pow10", "math/bits.deBruijn32tab", "math/bits.deBruijn64tab"], apart := false, laid := [("math/bits.deBruijn32tab", laid_math_bits_deBruijn32tab), ("math/bits.deBruijn64tab", laid_math_bits_deBruijn64tab), ("internal/strconv.uint64pow10", laid_internal_strconv_uint64pow10)] }
def FnExactFlightTextSaid : Prop := fnExactFlightTextRow.holds Tryd.pinned (OpenSpec.ofChange fnExactFlightTextSpec)

/-- ITS FALSE NEIGHBOUR: 'it returns false'. Refute it at one input. -/
def fnExactFlightTextWrong : ChangeSpec := { name := "fnExactFlightText", fn := fun _ => fun
  | [d] => { results := [.lit (.bool false)], args := [d] }
  | _ => none }
def FnExactFlightTextWrongFalsely : Prop := fnExactFlightTextRow.holds Tryd.pinned (OpenSpec.ofChange fnExactFlightTextWrong)

/-- 'laws.FnExactHouseText': WHATEVER THE INPUT: true; the input reads as it did. -/
def fnExactHouseTextSpec : ChangeSpec := { name := "fnExactHouseText", fn := fun _ => fun
  | [d] => { results := [.lit (.bool true)], args := [d] }
  | _ => none }
def fnExactHouseTextRow : OpenClaim := { program := "ytbmdgmmegchmnaadoor", sum := "dc96ed5849c8af4c2346d9e41a97f16c26723ffdb10c27f60d9a18dd0b2a9340", func := "loop.example/g01374/laws.FnExactHouseText", spec := "fnExactHouseText", unfollowed := true, recurses := true, named := ["internal/strconv.uint64pow10", "math/bits.deBruijn32tab", "math/bits.deBruijn64tab"], apart := false, laid := [("math/bits.deBruijn32tab", laid_math_bits_deBruijn32tab), ("math/bits.deBruijn64tab", laid_math_bits_deBruijn64tab), ("internal/strconv.uint64pow10", laid_internal_strconv_uint64pow10)] }
def FnExactHouseTextSaid : Prop := fnExactHouseTextRow.holds Tryd.pinned (OpenSpec.ofChange fnExactHouseTextSpec)

/-- ITS FALSE NEIGHBOUR: 'it returns false'. Refute it at one input. -/
def fnExactHouseTextWrong : ChangeSpec := { name := "fnExactHouseText", fn := fun _ => fun
  | [d] => { results := [.lit (.bool false)], args := [d] }
  | _ => none }
def FnExactHouseTextWrongFalsely : Prop := fnExactHouseTextRow.holds Tryd.pinned (OpenSpec.ofChange fnExactHouseTextWrong)

/-- 'laws.FnExactParseMoving': WHATEVER THE INPUT: true; the input reads as it did. -/
def fnExactParseMovingSpec : ChangeSpec := { name := "fnExactParseMoving", fn := fun _ => fun
  | [d] => { results := [.lit (.bool true)], args := [d] }
  | _ => none }
def fnExactParseMovingRow : OpenClaim := { program := "ytbmdgmmegchmnaadoor", sum := "dc96ed5849c8af4c2346d9e41a97f16c26723ffdb10c27f60d9a18dd0b2a9340", func := "loop.example/g01374/laws.FnExactParseMoving", spec := "fnExactParseMoving", inPlace := ["internal/bytealg.IndexByteString", "internal/bytealg.IndexString"], named := ["internal/bytealg.MaxLen", "strconv.ErrSyntax", "strconv.ErrRange", "internal/strconv.uint64pow10", "math/bits.deBruijn32tab", "math/bits.deBruijn64tab"], apart := false, laid := [("math/bits.deBruijn32tab", laid_math_bits_deBruijn32tab), ("math/bits.deBruijn64tab", laid_math_bits_deBruijn64tab), ("internal/strconv.uint64pow10", laid_internal_strconv_uint64pow10), ("strconv.ErrRange", laid_strconv_ErrRange), ("strconv.ErrSyntax", laid_strconv_ErrSyntax)] }
def FnExactParseMovingSaid : Prop := fnExactParseMovingRow.holds Tryd.pinned (OpenSpec.ofChange fnExactParseMovingSpec)

/-- ITS FALSE NEIGHBOUR: 'it returns false'. Refute it at one input. -/
def fnExactParseMovingWrong : ChangeSpec := { name := "fnExactParseMoving", fn := fun _ => fun
  | [d] => { results := [.lit (.bool false)], args := [d] }
  | _ => none }
def FnExactParseMovingWrongFalsely : Prop := fnExactParseMovingRow.holds Tryd.pinned (OpenSpec.ofChange fnExactParseMovingWrong)

/-- 'laws.FnExactParseFlight': WHATEVER THE INPUT: true; the input reads as it did. -/
def fnExactParseFlightSpec : ChangeSpec := { name := "fnExactParseFlight", fn := fun _ => fun
  | [d] => { results := [.lit (.bool true)], args := [d] }
  | _ => none }
def fnExactParseFlightRow : OpenClaim := { program := "ytbmdgmmegchmnaadoor", sum := "dc96ed5849c8af4c2346d9e41a97f16c26723ffdb10c27f60d9a18dd0b2a9340", func := "loop.example/g01374/laws.FnExactParseFlight", spec := "fnExactParseFlight", inPlace := ["internal/bytealg.IndexByteString", "internal/bytealg.IndexString"], named := ["internal/bytealg.MaxLen", "strconv.ErrSyntax", "strconv.ErrRange", "internal/strconv.uint64pow10", "math/bits.deBruijn32tab", "math/bits.deBruijn64tab"], apart := false, laid := [("math/bits.deBruijn32tab", laid_math_bits_deBruijn32tab), ("math/bits.deBruijn64tab", laid_math_bits_deBruijn64tab), ("internal/strconv.uint64pow10", laid_internal_strconv_uint64pow10), ("strconv.ErrRange", laid_strconv_ErrRange), ("strconv.ErrSyntax", laid_strconv_ErrSyntax)] }
def FnExactParseFlightSaid : Prop := fnExactParseFlightRow.holds Tryd.pinned (OpenSpec.ofChange fnExactParseFlightSpec)

/-- ITS FALSE NEIGHBOUR: 'it returns false'. Refute it at one input. -/
def fnExactParseFlightWrong : ChangeSpec := { name := "fnExactParseFlight", fn := fun _ => fun
  | [d] => { results := [.lit (.bool false)], args := [d] }
  | _ => none }
def FnExactParseFlightWrongFalsely : Prop := fnExactParseFlightRow.holds Tryd.pinned (OpenSpec.ofChange fnExactParseFlightWrong)

/-- 'laws.FnExactParseHouse': WHATEVER THE INPUT: true; the input reads as it did. -/
def fnExactParseHouseSpec : ChangeSpec := { name := "fnExactParseHouse", fn := fun _ => fun
  | [d] => { results := [.lit (.bool true)], args := [d] }
  | _ => none }
def fnExactParseHouseRow : OpenClaim := { program := "ytbmdgmmegchmnaadoor", sum := "dc96ed5849c8af4c2346d9e41a97f16c26723ffdb10c27f60d9a18dd0b2a9340", func := "loop.example/g01374/laws.FnExactParseHouse", spec := "fnExactParseHouse", inPlace := ["internal/bytealg.CountString", "internal/bytealg.IndexByteString", "internal/bytealg.IndexString"], unfollowed := true, recurses := true, named := ["unicode/utf8.first", "unicode/utf8.acceptRanges", "internal/bytealg.MaxLen", "strconv.ErrSyntax", "strconv.ErrRange", "internal/strconv.uint64pow10", "math/bits.deBruijn32tab", "math/bits.deBruijn64tab"], apart := false, laid := [("math/bits.deBruijn32tab", laid_math_bits_deBruijn32tab), ("math/bits.deBruijn64tab", laid_math_bits_deBruijn64tab), ("internal/strconv.uint64pow10", laid_internal_strconv_uint64pow10), ("unicode/utf8.acceptRanges", laid_unicode_utf8_acceptRanges), ("strconv.ErrRange", laid_strconv_ErrRange), ("strconv.ErrSyntax", laid_strconv_ErrSyntax), ("unicode/utf8.first", laid_unicode_utf8_first)] }
def FnExactParseHouseSaid : Prop := fnExactParseHouseRow.holds Tryd.pinned (OpenSpec.ofChange fnExactParseHouseSpec)

/-- ITS FALSE NEIGHBOUR: 'it returns false'. Refute it at one input. -/
def fnExactParseHouseWrong : ChangeSpec := { name := "fnExactParseHouse", fn := fun _ => fun
  | [d] => { results := [.lit (.bool false)], args := [d] }
  | _ => none }
def FnExactParseHouseWrongFalsely : Prop := fnExactParseHouseRow.holds Tryd.pinned (OpenSpec.ofChange fnExactParseHouseWrong)

/-- 'laws.FnRisersFitOfAll': WHATEVER THE INPUT: true; the input reads as it did. -/
def fnRisersFitOfAllSpec : ChangeSpec := { name := "fnRisersFitOfAll", fn := fun _ => fun
  | [d1, d2, d3, d4, d5, d6, d7, d8, d9, d10] => { results := [.lit (.bool true)], args := [d1, d2, d3, d4, d5, d6, d7, d8, d9, d10] }
  | _ => none }
def fnRisersFitOfAllRow : OpenClaim := { program := "ytbmdgmmegchmnaadoor", sum := "dc96ed5849c8af4c2346d9e41a97f16c26723ffdb10c27f60d9a18dd0b2a9340", func := "loop.example/g01374/laws.FnRisersFitOfAll", spec := "fnRisersFitOfAll", inPlace := ["internal/bytealg.IndexByteString", "internal/bytealg.IndexString"], recurses := true, named := ["internal/strconv.uint64pow10", "math/bits.deBruijn32tab", "math/bits.deBruijn64tab", "internal/bytealg.MaxLen", "strconv.ErrSyntax", "strconv.ErrRange"], apart := false, laid := [("math/bits.deBruijn32tab", laid_math_bits_deBruijn32tab), ("math/bits.deBruijn64tab", laid_math_bits_deBruijn64tab), ("internal/strconv.uint64pow10", laid_internal_strconv_uint64pow10), ("strconv.ErrRange", laid_strconv_ErrRange), ("strconv.ErrSyntax", laid_strconv_ErrSyntax)] }
def FnRisersFitOfAllSaid : Prop := fnRisersFitOfAllRow.holds Tryd.pinned (OpenSpec.ofChange fnRisersFitOfAllSpec)

/-- ITS FALSE NEIGHBOUR: 'it returns false'. Refute it at one input. -/
def fnRisersFitOfAllWrong : ChangeSpec := { name := "fnRisersFitOfAll", fn := fun _ => fun
  | [d1, d2, d3, d4, d5, d6, d7, d8, d9, d10] => { results := [.lit (.bool false)], args := [d1, d2, d3, d4, d5, d6, d7, d8, d9, d10] }
  | _ => none }
def FnRisersFitOfAllWrongFalsely : Prop := fnRisersFitOfAllRow.holds Tryd.pinned (OpenSpec.ofChange fnRisersFitOfAllWrong)

/-- 'laws.FnHousesBuiltOfAll': WHATEVER THE INPUT: true; the input reads as it did. -/
def fnHousesBuiltOfAllSpec : ChangeSpec := { name := "fnHousesBuiltOfAll", fn := fun _ => fun
  | [d1, d2, d3, d4, d5, d6, d7, d8] => { results := [.lit (.bool true)], args := [d1, d2, d3, d4, d5, d6, d7, d8] }
  | _ => none }
def fnHousesBuiltOfAllRow : OpenClaim := { program := "ytbmdgmmegchmnaadoor", sum := "dc96ed5849c8af4c2346d9e41a97f16c26723ffdb10c27f60d9a18dd0b2a9340", func := "loop.example/g01374/laws.FnHousesBuiltOfAll", spec := "fnHousesBuiltOfAll", inPlace := ["internal/bytealg.CountString", "internal/bytealg.IndexByteString", "internal/bytealg.IndexString"], unfollowed := true, recurses := true, named := ["internal/strconv.uint64pow10", "math/bits.deBruijn32tab", "math/bits.deBruijn64tab", "unicode/utf8.first", "unicode/utf8.acceptRanges", "internal/bytealg.MaxLen", "strconv.ErrSyntax", "strconv.ErrRange"], apart := false, laid := [("math/bits.deBruijn32tab", laid_math_bits_deBruijn32tab), ("math/bits.deBruijn64tab", laid_math_bits_deBruijn64tab), ("internal/strconv.uint64pow10", laid_internal_strconv_uint64pow10), ("unicode/utf8.acceptRanges", laid_unicode_utf8_acceptRanges), ("strconv.ErrRange", laid_strconv_ErrRange), ("strconv.ErrSyntax", laid_strconv_ErrSyntax), ("unicode/utf8.first", laid_unicode_utf8_first)] }
def FnHousesBuiltOfAllSaid : Prop := fnHousesBuiltOfAllRow.holds Tryd.pinned (OpenSpec.ofChange fnHousesBuiltOfAllSpec)

/-- ITS FALSE NEIGHBOUR: 'it returns false'. Refute it at one input. -/
def fnHousesBuiltOfAllWrong : ChangeSpec := { name := "fnHousesBuiltOfAll", fn := fun _ => fun
  | [d1, d2, d3, d4, d5, d6, d7, d8] => { results := [.lit (.bool false)], args := [d1, d2, d3, d4, d5, d6, d7, d8] }
  | _ => none }
def FnHousesBuiltOfAllWrongFalsely : Prop := fnHousesBuiltOfAllRow.holds Tryd.pinned (OpenSpec.ofChange fnHousesBuiltOfAllWrong)

/-- 'laws.FnMovingTimedOfAll': WHATEVER THE INPUT: true; the input reads as it did. -/
def fnMovingTimedOfAllSpec : ChangeSpec := { name := "fnMovingTimedOfAll", fn := fun _ => fun
  | [d1, d2, d3, d4, d5, d6, d7, d8, d9, d10, d11] => { results := [.lit (.bool true)], args := [d1, d2, d3, d4, d5, d6, d7, d8, d9, d10, d11] }
  | _ => none }
def fnMovingTimedOfAllRow : OpenClaim := { program := "ytbmdgmmegchmnaadoor", sum := "dc96ed5849c8af4c2346d9e41a97f16c26723ffdb10c27f60d9a18dd0b2a9340", func := "loop.example/g01374/laws.FnMovingTimedOfAll", spec := "fnMovingTimedOfAll", inPlace := ["internal/bytealg.IndexByteString", "internal/bytealg.IndexString"], recurses := true, named := ["internal/strconv.uint64pow10", "math/bits.deBruijn32tab", "math/bits.deBruijn64tab", "internal/bytealg.MaxLen", "strconv.ErrSyntax", "strconv.ErrRange"], apart := false, laid := [("math/bits.deBruijn32tab", laid_math_bits_deBruijn32tab), ("math/bits.deBruijn64tab", laid_math_bits_deBruijn64tab), ("internal/strconv.uint64pow10", laid_internal_strconv_uint64pow10), ("strconv.ErrRange", laid_strconv_ErrRange), ("strconv.ErrSyntax", laid_strconv_ErrSyntax)] }
def FnMovingTimedOfAllSaid : Prop := fnMovingTimedOfAllRow.holds Tryd.pinned (OpenSpec.ofChange fnMovingTimedOfAllSpec)

/-- ITS FALSE NEIGHBOUR: 'it returns false'. Refute it at one input. -/
def fnMovingTimedOfAllWrong : ChangeSpec := { name := "fnMovingTimedOfAll", fn := fun _ => fun
  | [d1, d2, d3, d4, d5, d6, d7, d8, d9, d10, d11] => { results := [.lit (.bool false)], args := [d1, d2, d3, d4, d5, d6, d7, d8, d9, d10, d11] }
  | _ => none }
def FnMovingTimedOfAllWrongFalsely : Prop := fnMovingTimedOfAllRow.holds Tryd.pinned (OpenSpec.ofChange fnMovingTimedOfAllWrong)

/- THE SECOND FORM. 'bulk': how many values and letters a reading holds, each counted each time it is reached (what is shared counts as often as it is met; a slice's spare places count too). A statement '..UptoSaid' is the law's where the arguments, and the package variables that the reading takes, are together of bulk at most 1048576: NARROWER than '..Said'. Prove '..Said' where nothing that the law and all that it calls make is longer than what came in: it says more and counts as full. Else prove '..UptoSaid'. A law counts once. -/
mutual
def uptoBulk {H : Type} : DataW H → Nat
  | .lit (.string bytes) => bytes.length + 1
  | .lit _ => 1
  | .nil => 1
  | .ptr d => uptoBulk d + 1
  | .slice elems spare => uptoBulkAll elems + uptoBulkAll spare + 1
  | .agg parts => uptoBulkAll parts + 1
  | .iface _ d => uptoBulk d + 1
  | .map entries => uptoBulkEntries entries + 1
  | .held _ => 1
def uptoBulkAll {H : Type} : List (DataW H) → Nat
  | [] => 0
  | d :: r => uptoBulk d + uptoBulkAll r
def uptoBulkEntries {H : Type} : List (Lit × DataW H) → Nat
  | [] => 0
  | x :: r => uptoBulkEntry x + uptoBulkEntries r
def uptoBulkEntry {H : Type} : Lit × DataW H → Nat
  | (.string bytes, d) => bytes.length + uptoBulk d + 1
  | (_, d) => uptoBulk d + 1
 end
def uptoSmall : (H : Type) → List (DataW H) → Bool := fun _ ds => decide (uptoBulkAll ds ≤ 1048576)
def OpenSpec.upto (s : _root_.Go.ChangeSpec) : _root_.Go.OpenSpec := { _root_.Go.OpenSpec.ofChange s with cond := some uptoSmall }

/-- 'laws.FnExactMovingText', WHERE WHAT IT READS IS OF BULK AT MOST 1048576: true; the input reads as it did. -/
def fnExactMovingTextUptoRow : OpenClaim := { program := "ytbmdgmmegchmnaadoor", sum := "dc96ed5849c8af4c2346d9e41a97f16c26723ffdb10c27f60d9a18dd0b2a9340", func := "loop.example/g01374/laws.FnExactMovingText", spec := "fnExactMovingText", recurses := true, named := ["internal/strconv.uint64pow10", "math/bits.deBruijn32tab", "math/bits.deBruijn64tab"], apart := false, laid := [("math/bits.deBruijn32tab", laid_math_bits_deBruijn32tab), ("math/bits.deBruijn64tab", laid_math_bits_deBruijn64tab), ("internal/strconv.uint64pow10", laid_internal_strconv_uint64pow10)], narrowed := true }
def FnExactMovingTextUptoSaid : Prop := fnExactMovingTextUptoRow.holds Tryd.pinned (OpenSpec.upto fnExactMovingTextSpec)

/-- 'laws.FnExactFlightText', WHERE WHAT IT READS IS OF BULK AT MOST 1048576: true; the input reads as it did. -/
def fnExactFlightTextUptoRow : OpenClaim := { program := "ytbmdgmmegchmnaadoor", sum := "dc96ed5849c8af4c2346d9e41a97f16c26723ffdb10c27f60d9a18dd0b2a9340", func := "loop.example/g01374/laws.FnExactFlightText", spec := "fnExactFlightText", recurses := true, named := ["internal/strconv.uint64pow10", "math/bits.deBruijn32tab", "math/bits.deBruijn64tab"], apart := false, laid := [("math/bits.deBruijn32tab", laid_math_bits_deBruijn32tab), ("math/bits.deBruijn64tab", laid_math_bits_deBruijn64tab), ("internal/strconv.uint64pow10", laid_internal_strconv_uint64pow10)], narrowed := true }
def FnExactFlightTextUptoSaid : Prop := fnExactFlightTextUptoRow.holds Tryd.pinned (OpenSpec.upto fnExactFlightTextSpec)

/-- 'laws.FnExactHouseText', WHERE WHAT IT READS IS OF BULK AT MOST 1048576: true; the input reads as it did. -/
def fnExactHouseTextUptoRow : OpenClaim := { program := "ytbmdgmmegchmnaadoor", sum := "dc96ed5849c8af4c2346d9e41a97f16c26723ffdb10c27f60d9a18dd0b2a9340", func := "loop.example/g01374/laws.FnExactHouseText", spec := "fnExactHouseText", unfollowed := true, recurses := true, named := ["internal/strconv.uint64pow10", "math/bits.deBruijn32tab", "math/bits.deBruijn64tab"], apart := false, laid := [("math/bits.deBruijn32tab", laid_math_bits_deBruijn32tab), ("math/bits.deBruijn64tab", laid_math_bits_deBruijn64tab), ("internal/strconv.uint64pow10", laid_internal_strconv_uint64pow10)], narrowed := true }
def FnExactHouseTextUptoSaid : Prop := fnExactHouseTextUptoRow.holds Tryd.pinned (OpenSpec.upto fnExactHouseTextSpec)

/-- 'laws.FnExactParseMoving', WHERE WHAT IT READS IS OF BULK AT MOST 1048576: true; the input reads as it did. -/
def fnExactParseMovingUptoRow : OpenClaim := { program := "ytbmdgmmegchmnaadoor", sum := "dc96ed5849c8af4c2346d9e41a97f16c26723ffdb10c27f60d9a18dd0b2a9340", func := "loop.example/g01374/laws.FnExactParseMoving", spec := "fnExactParseMoving", inPlace := ["internal/bytealg.IndexByteString", "internal/bytealg.IndexString"], named := ["internal/bytealg.MaxLen", "strconv.ErrSyntax", "strconv.ErrRange", "internal/strconv.uint64pow10", "math/bits.deBruijn32tab", "math/bits.deBruijn64tab"], apart := false, laid := [("math/bits.deBruijn32tab", laid_math_bits_deBruijn32tab), ("math/bits.deBruijn64tab", laid_math_bits_deBruijn64tab), ("internal/strconv.uint64pow10", laid_internal_strconv_uint64pow10), ("strconv.ErrRange", laid_strconv_ErrRange), ("strconv.ErrSyntax", laid_strconv_ErrSyntax)], narrowed := true }
def FnExactParseMovingUptoSaid : Prop := fnExactParseMovingUptoRow.holds Tryd.pinned (OpenSpec.upto fnExactParseMovingSpec)

/-- 'laws.FnExactParseFlight', WHERE WHAT IT READS IS OF BULK AT MOST 1048576: true; the input reads as it did. -/
def fnExactParseFlightUptoRow : OpenClaim := { program := "ytbmdgmmegchmnaadoor", sum := "dc96ed5849c8af4c2346d9e41a97f16c26723ffdb10c27f60d9a18dd0b2a9340", func := "loop.example/g01374/laws.FnExactParseFlight", spec := "fnExactParseFlight", inPlace := ["internal/bytealg.IndexByteString", "internal/bytealg.IndexString"], named := ["internal/bytealg.MaxLen", "strconv.ErrSyntax", "strconv.ErrRange", "internal/strconv.uint64pow10", "math/bits.deBruijn32tab", "math/bits.deBruijn64tab"], apart := false, laid := [("math/bits.deBruijn32tab", laid_math_bits_deBruijn32tab), ("math/bits.deBruijn64tab", laid_math_bits_deBruijn64tab), ("internal/strconv.uint64pow10", laid_internal_strconv_uint64pow10), ("strconv.ErrRange", laid_strconv_ErrRange), ("strconv.ErrSyntax", laid_strconv_ErrSyntax)], narrowed := true }
def FnExactParseFlightUptoSaid : Prop := fnExactParseFlightUptoRow.holds Tryd.pinned (OpenSpec.upto fnExactParseFlightSpec)

/-- 'laws.FnExactParseHouse', WHERE WHAT IT READS IS OF BULK AT MOST 1048576: true; the input reads as it did. -/
def fnExactParseHouseUptoRow : OpenClaim := { program := "ytbmdgmmegchmnaadoor", sum := "dc96ed5849c8af4c2346d9e41a97f16c26723ffdb10c27f60d9a18dd0b2a9340", func := "loop.example/g01374/laws.FnExactParseHouse", spec := "fnExactParseHouse", inPlace := ["internal/bytealg.CountString", "internal/bytealg.IndexByteString", "internal/bytealg.IndexString"], unfollowed := true, recurses := true, named := ["unicode/utf8.first", "unicode/utf8.acceptRanges", "internal/bytealg.MaxLen", "strconv.ErrSyntax", "strconv.ErrRange", "internal/strconv.uint64pow10", "math/bits.deBruijn32tab", "math/bits.deBruijn64tab"], apart := false, laid := [("math/bits.deBruijn32tab", laid_math_bits_deBruijn32tab), ("math/bits.deBruijn64tab", laid_math_bits_deBruijn64tab), ("internal/strconv.uint64pow10", laid_internal_strconv_uint64pow10), ("unicode/utf8.acceptRanges", laid_unicode_utf8_acceptRanges), ("strconv.ErrRange", laid_strconv_ErrRange), ("strconv.ErrSyntax", laid_strconv_ErrSyntax), ("unicode/utf8.first", laid_unicode_utf8_first)], narrowed := true }
def FnExactParseHouseUptoSaid : Prop := fnExactParseHouseUptoRow.holds Tryd.pinned (OpenSpec.upto fnExactParseHouseSpec)

/-- 'laws.FnRisersFitOfAll', WHERE WHAT IT READS IS OF BULK AT MOST 1048576: true; the input reads as it did. -/
def fnRisersFitOfAllUptoRow : OpenClaim := { program := "ytbmdgmmegchmnaadoor", sum := "dc96ed5849c8af4c2346d9e41a97f16c26723ffdb10c27f60d9a18dd0b2a9340", func := "loop.example/g01374/laws.FnRisersFitOfAll", spec := "fnRisersFitOfAll", inPlace := ["internal/bytealg.IndexByteString", "internal/bytealg.IndexString"], recurses := true, named := ["internal/strconv.uint64pow10", "math/bits.deBruijn32tab", "math/bits.deBruijn64tab", "internal/bytealg.MaxLen", "strconv.ErrSyntax", "strconv.ErrRange"], apart := false, laid := [("math/bits.deBruijn32tab", laid_math_bits_deBruijn32tab), ("math/bits.deBruijn64tab", laid_math_bits_deBruijn64tab), ("internal/strconv.uint64pow10", laid_internal_strconv_uint64pow10), ("strconv.ErrRange", laid_strconv_ErrRange), ("strconv.ErrSyntax", laid_strconv_ErrSyntax)], narrowed := true }
def FnRisersFitOfAllUptoSaid : Prop := fnRisersFitOfAllUptoRow.holds Tryd.pinned (OpenSpec.upto fnRisersFitOfAllSpec)

/-- 'laws.FnHousesBuiltOfAll', WHERE WHAT IT READS IS OF BULK AT MOST 1048576: true; the input reads as it did. -/
def fnHousesBuiltOfAllUptoRow : OpenClaim := { program := "ytbmdgmmegchmnaadoor", sum := "dc96ed5849c8af4c2346d9e41a97f16c26723ffdb10c27f60d9a18dd0b2a9340", func := "loop.example/g01374/laws.FnHousesBuiltOfAll", spec := "fnHousesBuiltOfAll", inPlace := ["internal/bytealg.CountString", "internal/bytealg.IndexByteString", "internal/bytealg.IndexString"], unfollowed := true, recurses := true, named := ["internal/strconv.uint64pow10", "math/bits.deBruijn32tab", "math/bits.deBruijn64tab", "unicode/utf8.first", "unicode/utf8.acceptRanges", "internal/bytealg.MaxLen", "strconv.ErrSyntax", "strconv.ErrRange"], apart := false, laid := [("math/bits.deBruijn32tab", laid_math_bits_deBruijn32tab), ("math/bits.deBruijn64tab", laid_math_bits_deBruijn64tab), ("internal/strconv.uint64pow10", laid_internal_strconv_uint64pow10), ("unicode/utf8.acceptRanges", laid_unicode_utf8_acceptRanges), ("strconv.ErrRange", laid_strconv_ErrRange), ("strconv.ErrSyntax", laid_strconv_ErrSyntax), ("unicode/utf8.first", laid_unicode_utf8_first)], narrowed := true }
def FnHousesBuiltOfAllUptoSaid : Prop := fnHousesBuiltOfAllUptoRow.holds Tryd.pinned (OpenSpec.upto fnHousesBuiltOfAllSpec)

/-- 'laws.FnMovingTimedOfAll', WHERE WHAT IT READS IS OF BULK AT MOST 1048576: true; the input reads as it did. -/
def fnMovingTimedOfAllUptoRow : OpenClaim := { program := "ytbmdgmmegchmnaadoor", sum := "dc96ed5849c8af4c2346d9e41a97f16c26723ffdb10c27f60d9a18dd0b2a9340", func := "loop.example/g01374/laws.FnMovingTimedOfAll", spec := "fnMovingTimedOfAll", inPlace := ["internal/bytealg.IndexByteString", "internal/bytealg.IndexString"], recurses := true, named := ["internal/strconv.uint64pow10", "math/bits.deBruijn32tab", "math/bits.deBruijn64tab", "internal/bytealg.MaxLen", "strconv.ErrSyntax", "strconv.ErrRange"], apart := false, laid := [("math/bits.deBruijn32tab", laid_math_bits_deBruijn32tab), ("math/bits.deBruijn64tab", laid_math_bits_deBruijn64tab), ("internal/strconv.uint64pow10", laid_internal_strconv_uint64pow10), ("strconv.ErrRange", laid_strconv_ErrRange), ("strconv.ErrSyntax", laid_strconv_ErrSyntax)], narrowed := true }
def FnMovingTimedOfAllUptoSaid : Prop := fnMovingTimedOfAllUptoRow.holds Tryd.pinned (OpenSpec.upto fnMovingTimedOfAllSpec)

end Rows
end Go.Proofs.YtbmdgmmegchmnaaDoor
