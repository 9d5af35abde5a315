/-
  NARROWER THAN 'FOR EVERY INPUT', by the rows' own cells (each row's printed sentence says how): FnChained: laid · FnExactReadDeed: laid · FnExactImagesOf: laid · FnExactIsLetterwise: laid · FnExactRelationOfScribe: laid · FnFunctional: laid · FnExactInputsOf: laid · FnExactTransducerOf: laid · FnExactOutputsOf: laid · FnExactRestrictFunction: laid · FnExactScribeOf: laid · FnExactInputsIn: laid · FnExactOutputsIn: laid · FnExactReadTransducer: laid.
  DERIVED. THE GIVEN ROWS OF THIS SEAT. 14 by the template 'for every input the law returns true; each argument reads behind the call as it read before'; 0 by the template 'total and deterministic' (their statements: YtgeljcnlegbedaaDoorTotals.lean).
  GIVEN WITH THE SEED: the statements are not yours to turn. If you find one false, say at which input.
  Laid BY PROGRAM, IN A SANDBOX (cutbox-rows.mjs): the forced cells as the released guide's own fill.sh prints them over the translation 63cc99b08dccde11… (all of the seat's roots in one cut). By AI agents, Wed Nov 11 2026. No macro, syntax, notation, axiom, sorry.
-/
import Derived.Test.YtgeljcnlegbedaaDoorChecked
import GoSem.PinnedTables
import GoSem.Claim
import GoSem.ClaimJoined
import GoSem.ClaimMapViews
import Derived.JoinedTies
import Derived.KernelRfl
namespace Go.Proofs.YtgeljcnlegbedaaDoor
/- THE CELL 'sum', in the pinned program and in every row, IS THE sha256 OF THE DUMP (.gsa) THAT YtgeljcnlegbedaaDoorProg.lean LOADS. Nothing in Lean hashes anything: it is a label: what it is worth is what the hold of that sum in a sandbox is worth. -/
noncomputable def Tryd.pinned : Pinned := { name := "ytgeljcnlegbedaadoor", sum := "63cc99b08dccde113d0c6324612dc6c607de82e718f86ee72abb0ea6aeceb6de", checked := Tryd.checked }
namespace Rows
def none {H : Type} : Left H := { results := [], args := [] }

/- WHAT THE LISTED PACKAGE-LEVEL VARIABLES READ AS WHEN THE CALL BEGINS. Each datum BY PROGRAM (the guide's laid-datum.mjs) off the statement by which the dump's own 'gosem.cut.vars' lays the variable. In a bare row this is a premise. The card (YtgeljcnlegbedaaDoorCards.lean) ties it to the program's text. -/
def laid_unicode_utf8_acceptRanges {H : Type} : DataW H := .agg [.agg [.lit (.int .u8 128), .lit (.int .u8 191)], .agg [.lit (.int .u8 160), .lit (.int .u8 191)], .agg [.lit (.int .u8 128), .lit (.int .u8 159)], .agg [.lit (.int .u8 144), .lit (.int .u8 191)], .agg [.lit (.int .u8 128), .lit (.int .u8 143)], .agg [.lit (.int .u8 0), .lit (.int .u8 0)], .agg [.lit (.int .u8 0), .lit (.int .u8 0)], .agg [.lit (.int .u8 0), .lit (.int .u8 0)], .agg [.lit (.int .u8 0), .lit (.int .u8 0)], .agg [.lit (.int .u8 0), .lit (.int .u8 0)], .agg [.lit (.int .u8 0), .lit (.int .u8 0)], .agg [.lit (.int .u8 0), .lit (.int .u8 0)], .agg [.lit (.int .u8 0), .lit (.int .u8 0)], .agg [.lit (.int .u8 0), .lit (.int .u8 0)], .agg [.lit (.int .u8 0), .lit (.int .u8 0)], .agg [.lit (.int .u8 0), .lit (.int .u8 0)]]
/-- One of Go's own tables, pinned by name: the form's constant. -/
def laid_unicode_utf8_first : DataW Unit := Go.Pinned.utf8First
def laid_math_bits_deBruijn32tab {H : Type} : DataW H := .agg [.lit (.int .u8 0), .lit (.int .u8 1), .lit (.int .u8 28), .lit (.int .u8 2), .lit (.int .u8 29), .lit (.int .u8 14), .lit (.int .u8 24), .lit (.int .u8 3), .lit (.int .u8 30), .lit (.int .u8 22), .lit (.int .u8 20), .lit (.int .u8 15), .lit (.int .u8 25), .lit (.int .u8 17), .lit (.int .u8 4), .lit (.int .u8 8), .lit (.int .u8 31), .lit (.int .u8 27), .lit (.int .u8 13), .lit (.int .u8 23), .lit (.int .u8 21), .lit (.int .u8 19), .lit (.int .u8 16), .lit (.int .u8 7), .lit (.int .u8 26), .lit (.int .u8 12), .lit (.int .u8 18), .lit (.int .u8 6), .lit (.int .u8 11), .lit (.int .u8 5), .lit (.int .u8 10), .lit (.int .u8 9)]
def laid_math_bits_deBruijn64tab {H : Type} : DataW H := .agg [.lit (.int .u8 0), .lit (.int .u8 1), .lit (.int .u8 56), .lit (.int .u8 2), .lit (.int .u8 57), .lit (.int .u8 49), .lit (.int .u8 28), .lit (.int .u8 3), .lit (.int .u8 61), .lit (.int .u8 58), .lit (.int .u8 42), .lit (.int .u8 50), .lit (.int .u8 38), .lit (.int .u8 29), .lit (.int .u8 17), .lit (.int .u8 4), .lit (.int .u8 62), .lit (.int .u8 47), .lit (.int .u8 59), .lit (.int .u8 36), .lit (.int .u8 45), .lit (.int .u8 43), .lit (.int .u8 51), .lit (.int .u8 22), .lit (.int .u8 53), .lit (.int .u8 39), .lit (.int .u8 33), .lit (.int .u8 30), .lit (.int .u8 24), .lit (.int .u8 18), .lit (.int .u8 12), .lit (.int .u8 5), .lit (.int .u8 63), .lit (.int .u8 55), .lit (.int .u8 48), .lit (.int .u8 27), .lit (.int .u8 60), .lit (.int .u8 41), .lit (.int .u8 37), .lit (.int .u8 16), .lit (.int .u8 46), .lit (.int .u8 35), .lit (.int .u8 44), .lit (.int .u8 21), .lit (.int .u8 52), .lit (.int .u8 32), .lit (.int .u8 23), .lit (.int .u8 11), .lit (.int .u8 54), .lit (.int .u8 26), .lit (.int .u8 40), .lit (.int .u8 15), .lit (.int .u8 34), .lit (.int .u8 20), .lit (.int .u8 31), .lit (.int .u8 10), .lit (.int .u8 25), .lit (.int .u8 14), .lit (.int .u8 19), .lit (.int .u8 9), .lit (.int .u8 13), .lit (.int .u8 8), .lit (.int .u8 7), .lit (.int .u8 6)]
def laid_internal_strconv_uint64pow10 {H : Type} : DataW H := .agg [.lit (.int .u64 1), .lit (.int .u64 10), .lit (.int .u64 100), .lit (.int .u64 1000), .lit (.int .u64 10000), .lit (.int .u64 100000), .lit (.int .u64 1000000), .lit (.int .u64 10000000), .lit (.int .u64 100000000), .lit (.int .u64 1000000000), .lit (.int .u64 10000000000), .lit (.int .u64 100000000000), .lit (.int .u64 1000000000000), .lit (.int .u64 10000000000000), .lit (.int .u64 100000000000000), .lit (.int .u64 1000000000000000), .lit (.int .u64 10000000000000000), .lit (.int .u64 100000000000000000), .lit (.int .u64 1000000000000000000), .lit (.int .u64 10000000000000000000)]
def laid_strconv_ErrRange {H : Type} : DataW H := .iface "*errors.errorString" (.ptr (.agg [.lit (.string [118, 97, 108, 117, 101, 32, 111, 117, 116, 32, 111, 102, 32, 114, 97, 110, 103, 101])]))
def laid_strconv_ErrSyntax {H : Type} : DataW H := .iface "*errors.errorString" (.ptr (.agg [.lit (.string [105, 110, 118, 97, 108, 105, 100, 32, 115, 121, 110, 116, 97, 120])]))

/-- 'laws.FnChained': WHATEVER THE INPUT: true; the input reads as it did. -/
def fnChainedSpec : ChangeSpec := { name := "fnChained", fn := fun _ => fun
  | [d1, d2] => { results := [.lit (.bool true)], args := [d1, d2] }
  | _ => none }
def fnChainedRow : OpenClaim := { program := "ytgeljcnlegbedaadoor", sum := "63cc99b08dccde113d0c6324612dc6c607de82e718f86ee72abb0ea6aeceb6de", func := "loop.example/g01168/laws.FnChained", spec := "fnChained", inPlace := ["internal/bytealg.IndexByteString", "internal/bytealg.IndexString"], named := ["unicode/utf8.first", "unicode/utf8.acceptRanges", "internal/bytealg.MaxLen"], plainKeys := false, apart := false, laid := [("unicode/utf8.acceptRanges", laid_unicode_utf8_acceptRanges), ("unicode/utf8.first", laid_unicode_utf8_first)] }
def FnChainedSaid : Prop := fnChainedRow.holds Tryd.pinned (OpenSpec.ofChange fnChainedSpec)

/-- ITS FALSE NEIGHBOUR: 'it returns false'. Refute it at one input. -/
def fnChainedWrong : ChangeSpec := { name := "fnChained", fn := fun _ => fun
  | [d1, d2] => { results := [.lit (.bool false)], args := [d1, d2] }
  | _ => none }
def FnChainedWrongFalsely : Prop := fnChainedRow.holds Tryd.pinned (OpenSpec.ofChange fnChainedWrong)

/-- 'laws.FnExactReadDeed': WHATEVER THE INPUT: true; the input reads as it did. -/
def fnExactReadDeedSpec : ChangeSpec := { name := "fnExactReadDeed", fn := fun _ => fun
  | [d] => { results := [.lit (.bool true)], args := [d] }
  | _ => none }
def fnExactReadDeedRow : OpenClaim := { program := "ytgeljcnlegbedaadoor", sum := "63cc99b08dccde113d0c6324612dc6c607de82e718f86ee72abb0ea6aeceb6de", func := "loop.example/g01168/laws.FnExactReadDeed", spec := "fnExactReadDeed", inPlace := ["internal/bytealg.IndexByteString", "internal/bytealg.IndexString"], named := ["internal/bytealg.MaxLen", "strconv.ErrSyntax", "strconv.ErrRange", "internal/strconv.uint64pow10", "math/bits.deBruijn32tab", "math/bits.deBruijn64tab"], plainKeys := false, apart := false, laid := [("math/bits.deBruijn32tab", laid_math_bits_deBruijn32tab), ("math/bits.deBruijn64tab", laid_math_bits_deBruijn64tab), ("internal/strconv.uint64pow10", laid_internal_strconv_uint64pow10), ("strconv.ErrRange", laid_strconv_ErrRange), ("strconv.ErrSyntax", laid_strconv_ErrSyntax)] }
def FnExactReadDeedSaid : Prop := fnExactReadDeedRow.holds Tryd.pinned (OpenSpec.ofChange fnExactReadDeedSpec)

/-- ITS FALSE NEIGHBOUR: 'it returns false'. Refute it at one input. -/
def fnExactReadDeedWrong : ChangeSpec := { name := "fnExactReadDeed", fn := fun _ => fun
  | [d] => { results := [.lit (.bool false)], args := [d] }
  | _ => none }
def FnExactReadDeedWrongFalsely : Prop := fnExactReadDeedRow.holds Tryd.pinned (OpenSpec.ofChange fnExactReadDeedWrong)

/-- 'laws.FnExactImagesOf': WHATEVER THE INPUT: true; the input reads as it did. -/
def fnExactImagesOfSpec : ChangeSpec := { name := "fnExactImagesOf", fn := fun _ => fun
  | [d1, d2, d3] => { results := [.lit (.bool true)], args := [d1, d2, d3] }
  | _ => none }
def fnExactImagesOfRow : OpenClaim := { program := "ytgeljcnlegbedaadoor", sum := "63cc99b08dccde113d0c6324612dc6c607de82e718f86ee72abb0ea6aeceb6de", func := "loop.example/g01168/laws.FnExactImagesOf", spec := "fnExactImagesOf", inPlace := ["internal/bytealg.IndexByteString", "internal/bytealg.IndexString"], named := ["unicode/utf8.first", "unicode/utf8.acceptRanges", "internal/bytealg.MaxLen"], plainKeys := false, apart := false, laid := [("unicode/utf8.acceptRanges", laid_unicode_utf8_acceptRanges), ("unicode/utf8.first", laid_unicode_utf8_first)] }
def FnExactImagesOfSaid : Prop := fnExactImagesOfRow.holds Tryd.pinned (OpenSpec.ofChange fnExactImagesOfSpec)

/-- ITS FALSE NEIGHBOUR: 'it returns false'. Refute it at one input. -/
def fnExactImagesOfWrong : ChangeSpec := { name := "fnExactImagesOf", fn := fun _ => fun
  | [d1, d2, d3] => { results := [.lit (.bool false)], args := [d1, d2, d3] }
  | _ => none }
def FnExactImagesOfWrongFalsely : Prop := fnExactImagesOfRow.holds Tryd.pinned (OpenSpec.ofChange fnExactImagesOfWrong)

/-- 'laws.FnExactIsLetterwise': WHATEVER THE INPUT: true; the input reads as it did. -/
def fnExactIsLetterwiseSpec : ChangeSpec := { name := "fnExactIsLetterwise", fn := fun _ => fun
  | [d] => { results := [.lit (.bool true)], args := [d] }
  | _ => none }
def fnExactIsLetterwiseRow : OpenClaim := { program := "ytgeljcnlegbedaadoor", sum := "63cc99b08dccde113d0c6324612dc6c607de82e718f86ee72abb0ea6aeceb6de", func := "loop.example/g01168/laws.FnExactIsLetterwise", spec := "fnExactIsLetterwise", unfollowed := true, recurses := true, named := ["internal/strconv.uint64pow10", "math/bits.deBruijn32tab", "math/bits.deBruijn64tab"], plainKeys := false, apart := false, laid := [("math/bits.deBruijn32tab", laid_math_bits_deBruijn32tab), ("math/bits.deBruijn64tab", laid_math_bits_deBruijn64tab), ("internal/strconv.uint64pow10", laid_internal_strconv_uint64pow10)] }
def FnExactIsLetterwiseSaid : Prop := fnExactIsLetterwiseRow.holds Tryd.pinned (OpenSpec.ofChange fnExactIsLetterwiseSpec)

/-- ITS FALSE NEIGHBOUR: 'it returns false'. Refute it at one input. -/
def fnExactIsLetterwiseWrong : ChangeSpec := { name := "fnExactIsLetterwise", fn := fun _ => fun
  | [d] => { results := [.lit (.bool false)], args := [d] }
  | _ => none }
def FnExactIsLetterwiseWrongFalsely : Prop := fnExactIsLetterwiseRow.holds Tryd.pinned (OpenSpec.ofChange fnExactIsLetterwiseWrong)

/-- 'laws.FnExactRelationOfScribe': WHATEVER THE INPUT: true; the input reads as it did. -/
def fnExactRelationOfScribeSpec : ChangeSpec := { name := "fnExactRelationOfScribe", fn := fun _ => fun
  | [d] => { results := [.lit (.bool true)], args := [d] }
  | _ => none }
def fnExactRelationOfScribeRow : OpenClaim := { program := "ytgeljcnlegbedaadoor", sum := "63cc99b08dccde113d0c6324612dc6c607de82e718f86ee72abb0ea6aeceb6de", func := "loop.example/g01168/laws.FnExactRelationOfScribe", spec := "fnExactRelationOfScribe", unfollowed := true, recurses := true, named := ["internal/strconv.uint64pow10", "math/bits.deBruijn32tab", "math/bits.deBruijn64tab"], plainKeys := false, apart := false, laid := [("math/bits.deBruijn32tab", laid_math_bits_deBruijn32tab), ("math/bits.deBruijn64tab", laid_math_bits_deBruijn64tab), ("internal/strconv.uint64pow10", laid_internal_strconv_uint64pow10)] }
def FnExactRelationOfScribeSaid : Prop := fnExactRelationOfScribeRow.holds Tryd.pinned (OpenSpec.ofChange fnExactRelationOfScribeSpec)

/-- ITS FALSE NEIGHBOUR: 'it returns false'. Refute it at one input. -/
def fnExactRelationOfScribeWrong : ChangeSpec := { name := "fnExactRelationOfScribe", fn := fun _ => fun
  | [d] => { results := [.lit (.bool false)], args := [d] }
  | _ => none }
def FnExactRelationOfScribeWrongFalsely : Prop := fnExactRelationOfScribeRow.holds Tryd.pinned (OpenSpec.ofChange fnExactRelationOfScribeWrong)

/-- 'laws.FnFunctional': WHATEVER THE INPUT: true; the input reads as it did. -/
def fnFunctionalSpec : ChangeSpec := { name := "fnFunctional", fn := fun _ => fun
  | [d1, d2] => { results := [.lit (.bool true)], args := [d1, d2] }
  | _ => none }
def fnFunctionalRow : OpenClaim := { program := "ytgeljcnlegbedaadoor", sum := "63cc99b08dccde113d0c6324612dc6c607de82e718f86ee72abb0ea6aeceb6de", func := "loop.example/g01168/laws.FnFunctional", spec := "fnFunctional", inPlace := ["internal/bytealg.IndexByteString", "internal/bytealg.IndexString"], named := ["unicode/utf8.first", "unicode/utf8.acceptRanges", "internal/bytealg.MaxLen"], plainKeys := false, apart := false, laid := [("unicode/utf8.acceptRanges", laid_unicode_utf8_acceptRanges), ("unicode/utf8.first", laid_unicode_utf8_first)] }
def FnFunctionalSaid : Prop := fnFunctionalRow.holds Tryd.pinned (OpenSpec.ofChange fnFunctionalSpec)

/-- ITS FALSE NEIGHBOUR: 'it returns false'. Refute it at one input. -/
def fnFunctionalWrong : ChangeSpec := { name := "fnFunctional", fn := fun _ => fun
  | [d1, d2] => { results := [.lit (.bool false)], args := [d1, d2] }
  | _ => none }
def FnFunctionalWrongFalsely : Prop := fnFunctionalRow.holds Tryd.pinned (OpenSpec.ofChange fnFunctionalWrong)

/-- 'laws.FnExactInputsOf': WHATEVER THE INPUT: true; the input reads as it did. -/
def fnExactInputsOfSpec : ChangeSpec := { name := "fnExactInputsOf", fn := fun _ => fun
  | [d] => { results := [.lit (.bool true)], args := [d] }
  | _ => none }
def fnExactInputsOfRow : OpenClaim := { program := "ytgeljcnlegbedaadoor", sum := "63cc99b08dccde113d0c6324612dc6c607de82e718f86ee72abb0ea6aeceb6de", func := "loop.example/g01168/laws.FnExactInputsOf", spec := "fnExactInputsOf", unfollowed := true, recurses := true, named := ["internal/strconv.uint64pow10", "math/bits.deBruijn32tab", "math/bits.deBruijn64tab"], plainKeys := false, apart := false, laid := [("math/bits.deBruijn32tab", laid_math_bits_deBruijn32tab), ("math/bits.deBruijn64tab", laid_math_bits_deBruijn64tab), ("internal/strconv.uint64pow10", laid_internal_strconv_uint64pow10)] }
def FnExactInputsOfSaid : Prop := fnExactInputsOfRow.holds Tryd.pinned (OpenSpec.ofChange fnExactInputsOfSpec)

/-- ITS FALSE NEIGHBOUR: 'it returns false'. Refute it at one input. -/
def fnExactInputsOfWrong : ChangeSpec := { name := "fnExactInputsOf", fn := fun _ => fun
  | [d] => { results := [.lit (.bool false)], args := [d] }
  | _ => none }
def FnExactInputsOfWrongFalsely : Prop := fnExactInputsOfRow.holds Tryd.pinned (OpenSpec.ofChange fnExactInputsOfWrong)

/-- 'laws.FnExactTransducerOf': WHATEVER THE INPUT: true; the input reads as it did. -/
def fnExactTransducerOfSpec : ChangeSpec := { name := "fnExactTransducerOf", fn := fun _ => fun
  | [d] => { results := [.lit (.bool true)], args := [d] }
  | _ => none }
def fnExactTransducerOfRow : OpenClaim := { program := "ytgeljcnlegbedaadoor", sum := "63cc99b08dccde113d0c6324612dc6c607de82e718f86ee72abb0ea6aeceb6de", func := "loop.example/g01168/laws.FnExactTransducerOf", spec := "fnExactTransducerOf", unfollowed := true, recurses := true, named := ["internal/strconv.uint64pow10", "math/bits.deBruijn32tab", "math/bits.deBruijn64tab"], plainKeys := false, apart := false, laid := [("math/bits.deBruijn32tab", laid_math_bits_deBruijn32tab), ("math/bits.deBruijn64tab", laid_math_bits_deBruijn64tab), ("internal/strconv.uint64pow10", laid_internal_strconv_uint64pow10)] }
def FnExactTransducerOfSaid : Prop := fnExactTransducerOfRow.holds Tryd.pinned (OpenSpec.ofChange fnExactTransducerOfSpec)

/-- ITS FALSE NEIGHBOUR: 'it returns false'. Refute it at one input. -/
def fnExactTransducerOfWrong : ChangeSpec := { name := "fnExactTransducerOf", fn := fun _ => fun
  | [d] => { results := [.lit (.bool false)], args := [d] }
  | _ => none }
def FnExactTransducerOfWrongFalsely : Prop := fnExactTransducerOfRow.holds Tryd.pinned (OpenSpec.ofChange fnExactTransducerOfWrong)

/-- 'laws.FnExactOutputsOf': WHATEVER THE INPUT: true; the input reads as it did. -/
def fnExactOutputsOfSpec : ChangeSpec := { name := "fnExactOutputsOf", fn := fun _ => fun
  | [d] => { results := [.lit (.bool true)], args := [d] }
  | _ => none }
def fnExactOutputsOfRow : OpenClaim := { program := "ytgeljcnlegbedaadoor", sum := "63cc99b08dccde113d0c6324612dc6c607de82e718f86ee72abb0ea6aeceb6de", func := "loop.example/g01168/laws.FnExactOutputsOf", spec := "fnExactOutputsOf", unfollowed := true, recurses := true, named := ["internal/strconv.uint64pow10", "math/bits.deBruijn32tab", "math/bits.deBruijn64tab"], plainKeys := false, apart := false, laid := [("math/bits.deBruijn32tab", laid_math_bits_deBruijn32tab), ("math/bits.deBruijn64tab", laid_math_bits_deBruijn64tab), ("internal/strconv.uint64pow10", laid_internal_strconv_uint64pow10)] }
def FnExactOutputsOfSaid : Prop := fnExactOutputsOfRow.holds Tryd.pinned (OpenSpec.ofChange fnExactOutputsOfSpec)

/-- ITS FALSE NEIGHBOUR: 'it returns false'. Refute it at one input. -/
def fnExactOutputsOfWrong : ChangeSpec := { name := "fnExactOutputsOf", fn := fun _ => fun
  | [d] => { results := [.lit (.bool false)], args := [d] }
  | _ => none }
def FnExactOutputsOfWrongFalsely : Prop := fnExactOutputsOfRow.holds Tryd.pinned (OpenSpec.ofChange fnExactOutputsOfWrong)

/-- 'laws.FnExactRestrictFunction': WHATEVER THE INPUT: true; the input reads as it did. -/
def fnExactRestrictFunctionSpec : ChangeSpec := { name := "fnExactRestrictFunction", fn := fun _ => fun
  | [d1, d2] => { results := [.lit (.bool true)], args := [d1, d2] }
  | _ => none }
def fnExactRestrictFunctionRow : OpenClaim := { program := "ytgeljcnlegbedaadoor", sum := "63cc99b08dccde113d0c6324612dc6c607de82e718f86ee72abb0ea6aeceb6de", func := "loop.example/g01168/laws.FnExactRestrictFunction", spec := "fnExactRestrictFunction", unfollowed := true, recurses := true, named := ["internal/strconv.uint64pow10", "math/bits.deBruijn32tab", "math/bits.deBruijn64tab"], plainKeys := false, apart := false, laid := [("math/bits.deBruijn32tab", laid_math_bits_deBruijn32tab), ("math/bits.deBruijn64tab", laid_math_bits_deBruijn64tab), ("internal/strconv.uint64pow10", laid_internal_strconv_uint64pow10)] }
def FnExactRestrictFunctionSaid : Prop := fnExactRestrictFunctionRow.holds Tryd.pinned (OpenSpec.ofChange fnExactRestrictFunctionSpec)

/-- ITS FALSE NEIGHBOUR: 'it returns false'. Refute it at one input. -/
def fnExactRestrictFunctionWrong : ChangeSpec := { name := "fnExactRestrictFunction", fn := fun _ => fun
  | [d1, d2] => { results := [.lit (.bool false)], args := [d1, d2] }
  | _ => none }
def FnExactRestrictFunctionWrongFalsely : Prop := fnExactRestrictFunctionRow.holds Tryd.pinned (OpenSpec.ofChange fnExactRestrictFunctionWrong)

/-- 'laws.FnExactScribeOf': WHATEVER THE INPUT: true; the input reads as it did. -/
def fnExactScribeOfSpec : ChangeSpec := { name := "fnExactScribeOf", fn := fun _ => fun
  | [d] => { results := [.lit (.bool true)], args := [d] }
  | _ => none }
def fnExactScribeOfRow : OpenClaim := { program := "ytgeljcnlegbedaadoor", sum := "63cc99b08dccde113d0c6324612dc6c607de82e718f86ee72abb0ea6aeceb6de", func := "loop.example/g01168/laws.FnExactScribeOf", spec := "fnExactScribeOf", unfollowed := true, recurses := true, named := ["internal/strconv.uint64pow10", "math/bits.deBruijn32tab", "math/bits.deBruijn64tab"], plainKeys := false, apart := false, laid := [("math/bits.deBruijn32tab", laid_math_bits_deBruijn32tab), ("math/bits.deBruijn64tab", laid_math_bits_deBruijn64tab), ("internal/strconv.uint64pow10", laid_internal_strconv_uint64pow10)] }
def FnExactScribeOfSaid : Prop := fnExactScribeOfRow.holds Tryd.pinned (OpenSpec.ofChange fnExactScribeOfSpec)

/-- ITS FALSE NEIGHBOUR: 'it returns false'. Refute it at one input. -/
def fnExactScribeOfWrong : ChangeSpec := { name := "fnExactScribeOf", fn := fun _ => fun
  | [d] => { results := [.lit (.bool false)], args := [d] }
  | _ => none }
def FnExactScribeOfWrongFalsely : Prop := fnExactScribeOfRow.holds Tryd.pinned (OpenSpec.ofChange fnExactScribeOfWrong)

/-- 'laws.FnExactInputsIn': WHATEVER THE INPUT: true; the input reads as it did. -/
def fnExactInputsInSpec : ChangeSpec := { name := "fnExactInputsIn", fn := fun _ => fun
  | [d] => { results := [.lit (.bool true)], args := [d] }
  | _ => none }
def fnExactInputsInRow : OpenClaim := { program := "ytgeljcnlegbedaadoor", sum := "63cc99b08dccde113d0c6324612dc6c607de82e718f86ee72abb0ea6aeceb6de", func := "loop.example/g01168/laws.FnExactInputsIn", spec := "fnExactInputsIn", inPlace := ["slices.overlaps[int]"], unfollowed := true, recurses := true, named := ["internal/strconv.uint64pow10", "math/bits.deBruijn32tab", "math/bits.deBruijn64tab"], plainKeys := false, apart := false, laid := [("math/bits.deBruijn32tab", laid_math_bits_deBruijn32tab), ("math/bits.deBruijn64tab", laid_math_bits_deBruijn64tab), ("internal/strconv.uint64pow10", laid_internal_strconv_uint64pow10)] }
def FnExactInputsInSaid : Prop := fnExactInputsInRow.holds Tryd.pinned (OpenSpec.ofChange fnExactInputsInSpec)

/-- ITS FALSE NEIGHBOUR: 'it returns false'. Refute it at one input. -/
def fnExactInputsInWrong : ChangeSpec := { name := "fnExactInputsIn", fn := fun _ => fun
  | [d] => { results := [.lit (.bool false)], args := [d] }
  | _ => none }
def FnExactInputsInWrongFalsely : Prop := fnExactInputsInRow.holds Tryd.pinned (OpenSpec.ofChange fnExactInputsInWrong)

/-- 'laws.FnExactOutputsIn': WHATEVER THE INPUT: true; the input reads as it did. -/
def fnExactOutputsInSpec : ChangeSpec := { name := "fnExactOutputsIn", fn := fun _ => fun
  | [d] => { results := [.lit (.bool true)], args := [d] }
  | _ => none }
def fnExactOutputsInRow : OpenClaim := { program := "ytgeljcnlegbedaadoor", sum := "63cc99b08dccde113d0c6324612dc6c607de82e718f86ee72abb0ea6aeceb6de", func := "loop.example/g01168/laws.FnExactOutputsIn", spec := "fnExactOutputsIn", inPlace := ["slices.overlaps[int]"], unfollowed := true, recurses := true, named := ["internal/strconv.uint64pow10", "math/bits.deBruijn32tab", "math/bits.deBruijn64tab"], plainKeys := false, apart := false, laid := [("math/bits.deBruijn32tab", laid_math_bits_deBruijn32tab), ("math/bits.deBruijn64tab", laid_math_bits_deBruijn64tab), ("internal/strconv.uint64pow10", laid_internal_strconv_uint64pow10)] }
def FnExactOutputsInSaid : Prop := fnExactOutputsInRow.holds Tryd.pinned (OpenSpec.ofChange fnExactOutputsInSpec)

/-- ITS FALSE NEIGHBOUR: 'it returns false'. Refute it at one input. -/
def fnExactOutputsInWrong : ChangeSpec := { name := "fnExactOutputsIn", fn := fun _ => fun
  | [d] => { results := [.lit (.bool false)], args := [d] }
  | _ => none }
def FnExactOutputsInWrongFalsely : Prop := fnExactOutputsInRow.holds Tryd.pinned (OpenSpec.ofChange fnExactOutputsInWrong)

/-- 'laws.FnExactReadTransducer': WHATEVER THE INPUT: true; the input reads as it did. -/
def fnExactReadTransducerSpec : ChangeSpec := { name := "fnExactReadTransducer", fn := fun _ => fun
  | [d] => { results := [.lit (.bool true)], args := [d] }
  | _ => none }
def fnExactReadTransducerRow : OpenClaim := { program := "ytgeljcnlegbedaadoor", sum := "63cc99b08dccde113d0c6324612dc6c607de82e718f86ee72abb0ea6aeceb6de", func := "loop.example/g01168/laws.FnExactReadTransducer", spec := "fnExactReadTransducer", inPlace := ["internal/bytealg.CountString", "internal/bytealg.IndexByteString", "internal/bytealg.IndexString", "internal/abi.NoEscape"], recurses := true, named := ["unicode/utf8.first", "unicode/utf8.acceptRanges", "internal/bytealg.MaxLen", "strconv.ErrSyntax", "strconv.ErrRange", "internal/strconv.uint64pow10", "math/bits.deBruijn32tab", "math/bits.deBruijn64tab"], plainKeys := false, apart := false, laid := [("math/bits.deBruijn32tab", laid_math_bits_deBruijn32tab), ("math/bits.deBruijn64tab", laid_math_bits_deBruijn64tab), ("internal/strconv.uint64pow10", laid_internal_strconv_uint64pow10), ("unicode/utf8.acceptRanges", laid_unicode_utf8_acceptRanges), ("strconv.ErrRange", laid_strconv_ErrRange), ("strconv.ErrSyntax", laid_strconv_ErrSyntax), ("unicode/utf8.first", laid_unicode_utf8_first)] }
def FnExactReadTransducerSaid : Prop := fnExactReadTransducerRow.holds Tryd.pinned (OpenSpec.ofChange fnExactReadTransducerSpec)

/-- ITS FALSE NEIGHBOUR: 'it returns false'. Refute it at one input. -/
def fnExactReadTransducerWrong : ChangeSpec := { name := "fnExactReadTransducer", fn := fun _ => fun
  | [d] => { results := [.lit (.bool false)], args := [d] }
  | _ => none }
def FnExactReadTransducerWrongFalsely : Prop := fnExactReadTransducerRow.holds Tryd.pinned (OpenSpec.ofChange fnExactReadTransducerWrong)

/- THE SECOND FORM. 'bulk': how many values and letters a reading holds, each counted each time it is reached (what is shared counts as often as it is met; a slice's spare places count too). A statement '..UptoSaid' is the law's where the arguments, and the package variables that the reading takes, are together of bulk at most 1048576: NARROWER than '..Said'. Prove '..Said' where nothing that the law and all that it calls make is longer than what came in: it says more and counts as full. Else prove '..UptoSaid'. A law counts once. -/
mutual
def uptoBulk {H : Type} : DataW H → Nat
  | .lit (.string bytes) => bytes.length + 1
  | .lit _ => 1
  | .nil => 1
  | .ptr d => uptoBulk d + 1
  | .slice elems spare => uptoBulkAll elems + uptoBulkAll spare + 1
  | .agg parts => uptoBulkAll parts + 1
  | .iface _ d => uptoBulk d + 1
  | .map entries => uptoBulkEntries entries + 1
  | .held _ => 1
def uptoBulkAll {H : Type} : List (DataW H) → Nat
  | [] => 0
  | d :: r => uptoBulk d + uptoBulkAll r
def uptoBulkEntries {H : Type} : List (Lit × DataW H) → Nat
  | [] => 0
  | x :: r => uptoBulkEntry x + uptoBulkEntries r
def uptoBulkEntry {H : Type} : Lit × DataW H → Nat
  | (.string bytes, d) => bytes.length + uptoBulk d + 1
  | (_, d) => uptoBulk d + 1
 end
def uptoSmall : (H : Type) → List (DataW H) → Bool := fun _ ds => decide (uptoBulkAll ds ≤ 1048576)
def OpenSpec.upto (s : _root_.Go.ChangeSpec) : _root_.Go.OpenSpec := { _root_.Go.OpenSpec.ofChange s with cond := some uptoSmall }

/-- 'laws.FnChained', WHERE WHAT IT READS IS OF BULK AT MOST 1048576: true; the input reads as it did. -/
def fnChainedUptoRow : OpenClaim := { program := "ytgeljcnlegbedaadoor", sum := "63cc99b08dccde113d0c6324612dc6c607de82e718f86ee72abb0ea6aeceb6de", func := "loop.example/g01168/laws.FnChained", spec := "fnChained", inPlace := ["internal/bytealg.IndexByteString", "internal/bytealg.IndexString"], named := ["unicode/utf8.first", "unicode/utf8.acceptRanges", "internal/bytealg.MaxLen"], plainKeys := false, apart := false, laid := [("unicode/utf8.acceptRanges", laid_unicode_utf8_acceptRanges), ("unicode/utf8.first", laid_unicode_utf8_first)], narrowed := true }
def FnChainedUptoSaid : Prop := fnChainedUptoRow.holds Tryd.pinned (OpenSpec.upto fnChainedSpec)

/-- 'laws.FnExactReadDeed', WHERE WHAT IT READS IS OF BULK AT MOST 1048576: true; the input reads as it did. -/
def fnExactReadDeedUptoRow : OpenClaim := { program := "ytgeljcnlegbedaadoor", sum := "63cc99b08dccde113d0c6324612dc6c607de82e718f86ee72abb0ea6aeceb6de", func := "loop.example/g01168/laws.FnExactReadDeed", spec := "fnExactReadDeed", inPlace := ["internal/bytealg.IndexByteString", "internal/bytealg.IndexString"], named := ["internal/bytealg.MaxLen", "strconv.ErrSyntax", "strconv.ErrRange", "internal/strconv.uint64pow10", "math/bits.deBruijn32tab", "math/bits.deBruijn64tab"], plainKeys := false, apart := false, laid := [("math/bits.deBruijn32tab", laid_math_bits_deBruijn32tab), ("math/bits.deBruijn64tab", laid_math_bits_deBruijn64tab), ("internal/strconv.uint64pow10", laid_internal_strconv_uint64pow10), ("strconv.ErrRange", laid_strconv_ErrRange), ("strconv.ErrSyntax", laid_strconv_ErrSyntax)], narrowed := true }
def FnExactReadDeedUptoSaid : Prop := fnExactReadDeedUptoRow.holds Tryd.pinned (OpenSpec.upto fnExactReadDeedSpec)

/-- 'laws.FnExactImagesOf', WHERE WHAT IT READS IS OF BULK AT MOST 1048576: true; the input reads as it did. -/
def fnExactImagesOfUptoRow : OpenClaim := { program := "ytgeljcnlegbedaadoor", sum := "63cc99b08dccde113d0c6324612dc6c607de82e718f86ee72abb0ea6aeceb6de", func := "loop.example/g01168/laws.FnExactImagesOf", spec := "fnExactImagesOf", inPlace := ["internal/bytealg.IndexByteString", "internal/bytealg.IndexString"], named := ["unicode/utf8.first", "unicode/utf8.acceptRanges", "internal/bytealg.MaxLen"], plainKeys := false, apart := false, laid := [("unicode/utf8.acceptRanges", laid_unicode_utf8_acceptRanges), ("unicode/utf8.first", laid_unicode_utf8_first)], narrowed := true }
def FnExactImagesOfUptoSaid : Prop := fnExactImagesOfUptoRow.holds Tryd.pinned (OpenSpec.upto fnExactImagesOfSpec)

/-- 'laws.FnExactIsLetterwise', WHERE WHAT IT READS IS OF BULK AT MOST 1048576: true; the input reads as it did. -/
def fnExactIsLetterwiseUptoRow : OpenClaim := { program := "ytgeljcnlegbedaadoor", sum := "63cc99b08dccde113d0c6324612dc6c607de82e718f86ee72abb0ea6aeceb6de", func := "loop.example/g01168/laws.FnExactIsLetterwise", spec := "fnExactIsLetterwise", unfollowed := true, recurses := true, named := ["internal/strconv.uint64pow10", "math/bits.deBruijn32tab", "math/bits.deBruijn64tab"], plainKeys := false, apart := false, laid := [("math/bits.deBruijn32tab", laid_math_bits_deBruijn32tab), ("math/bits.deBruijn64tab", laid_math_bits_deBruijn64tab), ("internal/strconv.uint64pow10", laid_internal_strconv_uint64pow10)], narrowed := true }
def FnExactIsLetterwiseUptoSaid : Prop := fnExactIsLetterwiseUptoRow.holds Tryd.pinned (OpenSpec.upto fnExactIsLetterwiseSpec)

/-- 'laws.FnExactRelationOfScribe', WHERE WHAT IT READS IS OF BULK AT MOST 1048576: true; the input reads as it did. -/
def fnExactRelationOfScribeUptoRow : OpenClaim := { program := "ytgeljcnlegbedaadoor", sum := "63cc99b08dccde113d0c6324612dc6c607de82e718f86ee72abb0ea6aeceb6de", func := "loop.example/g01168/laws.FnExactRelationOfScribe", spec := "fnExactRelationOfScribe", unfollowed := true, recurses := true, named := ["internal/strconv.uint64pow10", "math/bits.deBruijn32tab", "math/bits.deBruijn64tab"], plainKeys := false, apart := false, laid := [("math/bits.deBruijn32tab", laid_math_bits_deBruijn32tab), ("math/bits.deBruijn64tab", laid_math_bits_deBruijn64tab), ("internal/strconv.uint64pow10", laid_internal_strconv_uint64pow10)], narrowed := true }
def FnExactRelationOfScribeUptoSaid : Prop := fnExactRelationOfScribeUptoRow.holds Tryd.pinned (OpenSpec.upto fnExactRelationOfScribeSpec)

/-- 'laws.FnFunctional', WHERE WHAT IT READS IS OF BULK AT MOST 1048576: true; the input reads as it did. -/
def fnFunctionalUptoRow : OpenClaim := { program := "ytgeljcnlegbedaadoor", sum := "63cc99b08dccde113d0c6324612dc6c607de82e718f86ee72abb0ea6aeceb6de", func := "loop.example/g01168/laws.FnFunctional", spec := "fnFunctional", inPlace := ["internal/bytealg.IndexByteString", "internal/bytealg.IndexString"], named := ["unicode/utf8.first", "unicode/utf8.acceptRanges", "internal/bytealg.MaxLen"], plainKeys := false, apart := false, laid := [("unicode/utf8.acceptRanges", laid_unicode_utf8_acceptRanges), ("unicode/utf8.first", laid_unicode_utf8_first)], narrowed := true }
def FnFunctionalUptoSaid : Prop := fnFunctionalUptoRow.holds Tryd.pinned (OpenSpec.upto fnFunctionalSpec)

/-- 'laws.FnExactInputsOf', WHERE WHAT IT READS IS OF BULK AT MOST 1048576: true; the input reads as it did. -/
def fnExactInputsOfUptoRow : OpenClaim := { program := "ytgeljcnlegbedaadoor", sum := "63cc99b08dccde113d0c6324612dc6c607de82e718f86ee72abb0ea6aeceb6de", func := "loop.example/g01168/laws.FnExactInputsOf", spec := "fnExactInputsOf", unfollowed := true, recurses := true, named := ["internal/strconv.uint64pow10", "math/bits.deBruijn32tab", "math/bits.deBruijn64tab"], plainKeys := false, apart := false, laid := [("math/bits.deBruijn32tab", laid_math_bits_deBruijn32tab), ("math/bits.deBruijn64tab", laid_math_bits_deBruijn64tab), ("internal/strconv.uint64pow10", laid_internal_strconv_uint64pow10)], narrowed := true }
def FnExactInputsOfUptoSaid : Prop := fnExactInputsOfUptoRow.holds Tryd.pinned (OpenSpec.upto fnExactInputsOfSpec)

/-- 'laws.FnExactTransducerOf', WHERE WHAT IT READS IS OF BULK AT MOST 1048576: true; the input reads as it did. -/
def fnExactTransducerOfUptoRow : OpenClaim := { program := "ytgeljcnlegbedaadoor", sum := "63cc99b08dccde113d0c6324612dc6c607de82e718f86ee72abb0ea6aeceb6de", func := "loop.example/g01168/laws.FnExactTransducerOf", spec := "fnExactTransducerOf", unfollowed := true, recurses := true, named := ["internal/strconv.uint64pow10", "math/bits.deBruijn32tab", "math/bits.deBruijn64tab"], plainKeys := false, apart := false, laid := [("math/bits.deBruijn32tab", laid_math_bits_deBruijn32tab), ("math/bits.deBruijn64tab", laid_math_bits_deBruijn64tab), ("internal/strconv.uint64pow10", laid_internal_strconv_uint64pow10)], narrowed := true }
def FnExactTransducerOfUptoSaid : Prop := fnExactTransducerOfUptoRow.holds Tryd.pinned (OpenSpec.upto fnExactTransducerOfSpec)

/-- 'laws.FnExactOutputsOf', WHERE WHAT IT READS IS OF BULK AT MOST 1048576: true; the input reads as it did. -/
def fnExactOutputsOfUptoRow : OpenClaim := { program := "ytgeljcnlegbedaadoor", sum := "63cc99b08dccde113d0c6324612dc6c607de82e718f86ee72abb0ea6aeceb6de", func := "loop.example/g01168/laws.FnExactOutputsOf", spec := "fnExactOutputsOf", unfollowed := true, recurses := true, named := ["internal/strconv.uint64pow10", "math/bits.deBruijn32tab", "math/bits.deBruijn64tab"], plainKeys := false, apart := false, laid := [("math/bits.deBruijn32tab", laid_math_bits_deBruijn32tab), ("math/bits.deBruijn64tab", laid_math_bits_deBruijn64tab), ("internal/strconv.uint64pow10", laid_internal_strconv_uint64pow10)], narrowed := true }
def FnExactOutputsOfUptoSaid : Prop := fnExactOutputsOfUptoRow.holds Tryd.pinned (OpenSpec.upto fnExactOutputsOfSpec)

/-- 'laws.FnExactRestrictFunction', WHERE WHAT IT READS IS OF BULK AT MOST 1048576: true; the input reads as it did. -/
def fnExactRestrictFunctionUptoRow : OpenClaim := { program := "ytgeljcnlegbedaadoor", sum := "63cc99b08dccde113d0c6324612dc6c607de82e718f86ee72abb0ea6aeceb6de", func := "loop.example/g01168/laws.FnExactRestrictFunction", spec := "fnExactRestrictFunction", unfollowed := true, recurses := true, named := ["internal/strconv.uint64pow10", "math/bits.deBruijn32tab", "math/bits.deBruijn64tab"], plainKeys := false, apart := false, laid := [("math/bits.deBruijn32tab", laid_math_bits_deBruijn32tab), ("math/bits.deBruijn64tab", laid_math_bits_deBruijn64tab), ("internal/strconv.uint64pow10", laid_internal_strconv_uint64pow10)], narrowed := true }
def FnExactRestrictFunctionUptoSaid : Prop := fnExactRestrictFunctionUptoRow.holds Tryd.pinned (OpenSpec.upto fnExactRestrictFunctionSpec)

/-- 'laws.FnExactScribeOf', WHERE WHAT IT READS IS OF BULK AT MOST 1048576: true; the input reads as it did. -/
def fnExactScribeOfUptoRow : OpenClaim := { program := "ytgeljcnlegbedaadoor", sum := "63cc99b08dccde113d0c6324612dc6c607de82e718f86ee72abb0ea6aeceb6de", func := "loop.example/g01168/laws.FnExactScribeOf", spec := "fnExactScribeOf", unfollowed := true, recurses := true, named := ["internal/strconv.uint64pow10", "math/bits.deBruijn32tab", "math/bits.deBruijn64tab"], plainKeys := false, apart := false, laid := [("math/bits.deBruijn32tab", laid_math_bits_deBruijn32tab), ("math/bits.deBruijn64tab", laid_math_bits_deBruijn64tab), ("internal/strconv.uint64pow10", laid_internal_strconv_uint64pow10)], narrowed := true }
def FnExactScribeOfUptoSaid : Prop := fnExactScribeOfUptoRow.holds Tryd.pinned (OpenSpec.upto fnExactScribeOfSpec)

/-- 'laws.FnExactInputsIn', WHERE WHAT IT READS IS OF BULK AT MOST 1048576: true; the input reads as it did. -/
def fnExactInputsInUptoRow : OpenClaim := { program := "ytgeljcnlegbedaadoor", sum := "63cc99b08dccde113d0c6324612dc6c607de82e718f86ee72abb0ea6aeceb6de", func := "loop.example/g01168/laws.FnExactInputsIn", spec := "fnExactInputsIn", inPlace := ["slices.overlaps[int]"], unfollowed := true, recurses := true, named := ["internal/strconv.uint64pow10", "math/bits.deBruijn32tab", "math/bits.deBruijn64tab"], plainKeys := false, apart := false, laid := [("math/bits.deBruijn32tab", laid_math_bits_deBruijn32tab), ("math/bits.deBruijn64tab", laid_math_bits_deBruijn64tab), ("internal/strconv.uint64pow10", laid_internal_strconv_uint64pow10)], narrowed := true }
def FnExactInputsInUptoSaid : Prop := fnExactInputsInUptoRow.holds Tryd.pinned (OpenSpec.upto fnExactInputsInSpec)

/-- 'laws.FnExactOutputsIn', WHERE WHAT IT READS IS OF BULK AT MOST 1048576: true; the input reads as it did. -/
def fnExactOutputsInUptoRow : OpenClaim := { program := "ytgeljcnlegbedaadoor", sum := "63cc99b08dccde113d0c6324612dc6c607de82e718f86ee72abb0ea6aeceb6de", func := "loop.example/g01168/laws.FnExactOutputsIn", spec := "fnExactOutputsIn", inPlace := ["slices.overlaps[int]"], unfollowed := true, recurses := true, named := ["internal/strconv.uint64pow10", "math/bits.deBruijn32tab", "math/bits.deBruijn64tab"], plainKeys := false, apart := false, laid := [("math/bits.deBruijn32tab", laid_math_bits_deBruijn32tab), ("math/bits.deBruijn64tab", laid_math_bits_deBruijn64tab), ("internal/strconv.uint64pow10", laid_internal_strconv_uint64pow10)], narrowed := true }
def FnExactOutputsInUptoSaid : Prop := fnExactOutputsInUptoRow.holds Tryd.pinned (OpenSpec.upto fnExactOutputsInSpec)

/-- 'laws.FnExactReadTransducer', WHERE WHAT IT READS IS OF BULK AT MOST 1048576: true; the input reads as it did. -/
def fnExactReadTransducerUptoRow : OpenClaim := { program := "ytgeljcnlegbedaadoor", sum := "63cc99b08dccde113d0c6324612dc6c607de82e718f86ee72abb0ea6aeceb6de", func := "loop.example/g01168/laws.FnExactReadTransducer", spec := "fnExactReadTransducer", inPlace := ["internal/bytealg.CountString", "internal/bytealg.IndexByteString", "internal/bytealg.IndexString", "internal/abi.NoEscape"], recurses := true, named := ["unicode/utf8.first", "unicode/utf8.acceptRanges", "internal/bytealg.MaxLen", "strconv.ErrSyntax", "strconv.ErrRange", "internal/strconv.uint64pow10", "math/bits.deBruijn32tab", "math/bits.deBruijn64tab"], plainKeys := false, apart := false, laid := [("math/bits.deBruijn32tab", laid_math_bits_deBruijn32tab), ("math/bits.deBruijn64tab", laid_math_bits_deBruijn64tab), ("internal/strconv.uint64pow10", laid_internal_strconv_uint64pow10), ("unicode/utf8.acceptRanges", laid_unicode_utf8_acceptRanges), ("strconv.ErrRange", laid_strconv_ErrRange), ("strconv.ErrSyntax", laid_strconv_ErrSyntax), ("unicode/utf8.first", laid_unicode_utf8_first)], narrowed := true }
def FnExactReadTransducerUptoSaid : Prop := fnExactReadTransducerUptoRow.holds Tryd.pinned (OpenSpec.upto fnExactReadTransducerSpec)

end Rows
end Go.Proofs.YtgeljcnlegbedaaDoor
