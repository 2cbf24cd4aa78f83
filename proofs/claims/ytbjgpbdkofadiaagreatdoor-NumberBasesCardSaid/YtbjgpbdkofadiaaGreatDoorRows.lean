/-
  NARROWER THAN 'FOR EVERY INPUT', by the rows' own cells (each row's printed sentence says how): NumberProducts: laid · NumberQuotients: laid · NumberDivisors: laid · NumberBases: laid · NumberPowers: laid · NumberBack: laid · NumberRing: laid · NumberSums: laid · NumberOrder: laid · NumberGcd: laid · NumberRoots: laid · NumberDivision: laid · NumberMachine: laid · NumberTexts: laid.
  DERIVED. THE GIVEN ROWS OF THIS SEAT. 14 by the template 'for every input the law returns true; each argument reads behind the call as it read before'; 0 by the template 'total and deterministic' (their statements: YtbjgpbdkofadiaaGreatDoorTotals.lean).
  GIVEN WITH THE SEED: the statements are not yours to turn. If you find one false, say at which input.
  Laid BY PROGRAM, IN A SANDBOX (cutbox-rows.mjs): the forced cells as the released guide's own fill.sh prints them over the translation 22f33cb0d7cfdc61… (all of the seat's roots in one cut). By AI agents, Wed Nov 11 2026. No macro, syntax, notation, axiom, sorry.
-/
import Derived.Test.YtbjgpbdkofadiaaGreatDoorChecked
import GoSem.Claim
import GoSem.ClaimJoined
import GoSem.ClaimMapViews
import Derived.JoinedTies
import Derived.KernelRfl
namespace Go.Proofs.YtbjgpbdkofadiaaGreatDoor
/- THE CELL 'sum', in the pinned program and in every row, IS THE sha256 OF THE DUMP (.gsa) THAT YtbjgpbdkofadiaaGreatDoorProg.lean LOADS. Nothing in Lean hashes anything: it is a label: what it is worth is what the hold of that sum in a sandbox is worth. -/
noncomputable def Tryz.pinned : Pinned := { name := "ytbjgpbdkofadiaagreatdoor", sum := "22f33cb0d7cfdc6144bcd0bad2e41b2684bec20796dc0d2db9b2023bb897abd8", checked := Tryz.checked }
namespace Rows
def none {H : Type} : Left H := { results := [], args := [] }

/- WHAT THE LISTED PACKAGE-LEVEL VARIABLES READ AS WHEN THE CALL BEGINS. Each datum BY PROGRAM (the guide's laid-datum.mjs) off the statement by which the dump's own 'gosem.cut.vars' lays the variable. In a bare row this is a premise. The card (YtbjgpbdkofadiaaGreatDoorCards.lean) ties it to the program's text. -/
def laid_math_bits_deBruijn32tab {H : Type} : DataW H := .agg [.lit (.int .u8 0), .lit (.int .u8 1), .lit (.int .u8 28), .lit (.int .u8 2), .lit (.int .u8 29), .lit (.int .u8 14), .lit (.int .u8 24), .lit (.int .u8 3), .lit (.int .u8 30), .lit (.int .u8 22), .lit (.int .u8 20), .lit (.int .u8 15), .lit (.int .u8 25), .lit (.int .u8 17), .lit (.int .u8 4), .lit (.int .u8 8), .lit (.int .u8 31), .lit (.int .u8 27), .lit (.int .u8 13), .lit (.int .u8 23), .lit (.int .u8 21), .lit (.int .u8 19), .lit (.int .u8 16), .lit (.int .u8 7), .lit (.int .u8 26), .lit (.int .u8 12), .lit (.int .u8 18), .lit (.int .u8 6), .lit (.int .u8 11), .lit (.int .u8 5), .lit (.int .u8 10), .lit (.int .u8 9)]
def laid_math_bits_deBruijn64tab {H : Type} : DataW H := .agg [.lit (.int .u8 0), .lit (.int .u8 1), .lit (.int .u8 56), .lit (.int .u8 2), .lit (.int .u8 57), .lit (.int .u8 49), .lit (.int .u8 28), .lit (.int .u8 3), .lit (.int .u8 61), .lit (.int .u8 58), .lit (.int .u8 42), .lit (.int .u8 50), .lit (.int .u8 38), .lit (.int .u8 29), .lit (.int .u8 17), .lit (.int .u8 4), .lit (.int .u8 62), .lit (.int .u8 47), .lit (.int .u8 59), .lit (.int .u8 36), .lit (.int .u8 45), .lit (.int .u8 43), .lit (.int .u8 51), .lit (.int .u8 22), .lit (.int .u8 53), .lit (.int .u8 39), .lit (.int .u8 33), .lit (.int .u8 30), .lit (.int .u8 24), .lit (.int .u8 18), .lit (.int .u8 12), .lit (.int .u8 5), .lit (.int .u8 63), .lit (.int .u8 55), .lit (.int .u8 48), .lit (.int .u8 27), .lit (.int .u8 60), .lit (.int .u8 41), .lit (.int .u8 37), .lit (.int .u8 16), .lit (.int .u8 46), .lit (.int .u8 35), .lit (.int .u8 44), .lit (.int .u8 21), .lit (.int .u8 52), .lit (.int .u8 32), .lit (.int .u8 23), .lit (.int .u8 11), .lit (.int .u8 54), .lit (.int .u8 26), .lit (.int .u8 40), .lit (.int .u8 15), .lit (.int .u8 34), .lit (.int .u8 20), .lit (.int .u8 31), .lit (.int .u8 10), .lit (.int .u8 25), .lit (.int .u8 14), .lit (.int .u8 19), .lit (.int .u8 9), .lit (.int .u8 13), .lit (.int .u8 8), .lit (.int .u8 7), .lit (.int .u8 6)]
def laid_internal_strconv_uint64pow10 {H : Type} : DataW H := .agg [.lit (.int .u64 1), .lit (.int .u64 10), .lit (.int .u64 100), .lit (.int .u64 1000), .lit (.int .u64 10000), .lit (.int .u64 100000), .lit (.int .u64 1000000), .lit (.int .u64 10000000), .lit (.int .u64 100000000), .lit (.int .u64 1000000000), .lit (.int .u64 10000000000), .lit (.int .u64 100000000000), .lit (.int .u64 1000000000000), .lit (.int .u64 10000000000000), .lit (.int .u64 100000000000000), .lit (.int .u64 1000000000000000), .lit (.int .u64 10000000000000000), .lit (.int .u64 100000000000000000), .lit (.int .u64 1000000000000000000), .lit (.int .u64 10000000000000000000)]
def laid_strconv_ErrRange {H : Type} : DataW H := .iface "*errors.errorString" (.ptr (.agg [.lit (.string [118, 97, 108, 117, 101, 32, 111, 117, 116, 32, 111, 102, 32, 114, 97, 110, 103, 101])]))
def laid_strconv_ErrSyntax {H : Type} : DataW H := .iface "*errors.errorString" (.ptr (.agg [.lit (.string [105, 110, 118, 97, 108, 105, 100, 32, 115, 121, 110, 116, 97, 120])]))
def laid_mjolner_number_digit {H : Type} : DataW H := .agg [.lit (.int .u8 48), .lit (.int .u8 49), .lit (.int .u8 50), .lit (.int .u8 51), .lit (.int .u8 52), .lit (.int .u8 53), .lit (.int .u8 54), .lit (.int .u8 55), .lit (.int .u8 56), .lit (.int .u8 57), .lit (.int .u8 97), .lit (.int .u8 98), .lit (.int .u8 99), .lit (.int .u8 100), .lit (.int .u8 101), .lit (.int .u8 102), .lit (.int .u8 103), .lit (.int .u8 104), .lit (.int .u8 105), .lit (.int .u8 106), .lit (.int .u8 107), .lit (.int .u8 108), .lit (.int .u8 109), .lit (.int .u8 110), .lit (.int .u8 111), .lit (.int .u8 112), .lit (.int .u8 113), .lit (.int .u8 114), .lit (.int .u8 115), .lit (.int .u8 116), .lit (.int .u8 117), .lit (.int .u8 118), .lit (.int .u8 119), .lit (.int .u8 120), .lit (.int .u8 121), .lit (.int .u8 122)]

/-- 'mjolnerlaw01.NumberProducts': WHATEVER THE INPUT: true; the input reads as it did. -/
def numberProductsSpec : ChangeSpec := { name := "numberProducts", fn := fun _ => fun
  | [d1, d2, d3] => { results := [.lit (.bool true)], args := [d1, d2, d3] }
  | _ => none }
def numberProductsRow : OpenClaim := { program := "ytbjgpbdkofadiaagreatdoor", sum := "22f33cb0d7cfdc6144bcd0bad2e41b2684bec20796dc0d2db9b2023bb897abd8", func := "mjolner/mjolnerlaw01.NumberProducts", spec := "numberProducts", inPlace := ["internal/abi.NoEscape", "internal/bytealg.MakeNoZero"], unfollowed := true, recurses := true, named := ["internal/strconv.uint64pow10", "math/bits.deBruijn32tab", "math/bits.deBruijn64tab", "strconv.ErrSyntax", "strconv.ErrRange", "mjolner/number.digit"], apart := false, laid := [("math/bits.deBruijn32tab", laid_math_bits_deBruijn32tab), ("math/bits.deBruijn64tab", laid_math_bits_deBruijn64tab), ("internal/strconv.uint64pow10", laid_internal_strconv_uint64pow10), ("strconv.ErrRange", laid_strconv_ErrRange), ("strconv.ErrSyntax", laid_strconv_ErrSyntax), ("mjolner/number.digit", laid_mjolner_number_digit)] }
def NumberProductsSaid : Prop := numberProductsRow.holds Tryz.pinned (OpenSpec.ofChange numberProductsSpec)

/-- ITS FALSE NEIGHBOUR: 'it returns false'. Refute it at one input. -/
def numberProductsWrong : ChangeSpec := { name := "numberProducts", fn := fun _ => fun
  | [d1, d2, d3] => { results := [.lit (.bool false)], args := [d1, d2, d3] }
  | _ => none }
def NumberProductsWrongFalsely : Prop := numberProductsRow.holds Tryz.pinned (OpenSpec.ofChange numberProductsWrong)

/-- 'mjolnerlaw01.NumberQuotients': WHATEVER THE INPUT: true; the input reads as it did. -/
def numberQuotientsSpec : ChangeSpec := { name := "numberQuotients", fn := fun _ => fun
  | [d1, d2] => { results := [.lit (.bool true)], args := [d1, d2] }
  | _ => none }
def numberQuotientsRow : OpenClaim := { program := "ytbjgpbdkofadiaagreatdoor", sum := "22f33cb0d7cfdc6144bcd0bad2e41b2684bec20796dc0d2db9b2023bb897abd8", func := "mjolner/mjolnerlaw01.NumberQuotients", spec := "numberQuotients", inPlace := ["internal/abi.NoEscape", "internal/bytealg.MakeNoZero"], unfollowed := true, recurses := true, named := ["internal/strconv.uint64pow10", "math/bits.deBruijn32tab", "math/bits.deBruijn64tab", "strconv.ErrSyntax", "strconv.ErrRange", "mjolner/number.digit"], apart := false, laid := [("math/bits.deBruijn32tab", laid_math_bits_deBruijn32tab), ("math/bits.deBruijn64tab", laid_math_bits_deBruijn64tab), ("internal/strconv.uint64pow10", laid_internal_strconv_uint64pow10), ("strconv.ErrRange", laid_strconv_ErrRange), ("strconv.ErrSyntax", laid_strconv_ErrSyntax), ("mjolner/number.digit", laid_mjolner_number_digit)] }
def NumberQuotientsSaid : Prop := numberQuotientsRow.holds Tryz.pinned (OpenSpec.ofChange numberQuotientsSpec)

/-- ITS FALSE NEIGHBOUR: 'it returns false'. Refute it at one input. -/
def numberQuotientsWrong : ChangeSpec := { name := "numberQuotients", fn := fun _ => fun
  | [d1, d2] => { results := [.lit (.bool false)], args := [d1, d2] }
  | _ => none }
def NumberQuotientsWrongFalsely : Prop := numberQuotientsRow.holds Tryz.pinned (OpenSpec.ofChange numberQuotientsWrong)

/-- 'mjolnerlaw01.NumberDivisors': WHATEVER THE INPUT: true; the input reads as it did. -/
def numberDivisorsSpec : ChangeSpec := { name := "numberDivisors", fn := fun _ => fun
  | [d1, d2] => { results := [.lit (.bool true)], args := [d1, d2] }
  | _ => none }
def numberDivisorsRow : OpenClaim := { program := "ytbjgpbdkofadiaagreatdoor", sum := "22f33cb0d7cfdc6144bcd0bad2e41b2684bec20796dc0d2db9b2023bb897abd8", func := "mjolner/mjolnerlaw01.NumberDivisors", spec := "numberDivisors", inPlace := ["internal/abi.NoEscape", "internal/bytealg.MakeNoZero"], unfollowed := true, recurses := true, named := ["internal/strconv.uint64pow10", "math/bits.deBruijn32tab", "math/bits.deBruijn64tab", "strconv.ErrSyntax", "strconv.ErrRange", "mjolner/number.digit"], apart := false, laid := [("math/bits.deBruijn32tab", laid_math_bits_deBruijn32tab), ("math/bits.deBruijn64tab", laid_math_bits_deBruijn64tab), ("internal/strconv.uint64pow10", laid_internal_strconv_uint64pow10), ("strconv.ErrRange", laid_strconv_ErrRange), ("strconv.ErrSyntax", laid_strconv_ErrSyntax), ("mjolner/number.digit", laid_mjolner_number_digit)] }
def NumberDivisorsSaid : Prop := numberDivisorsRow.holds Tryz.pinned (OpenSpec.ofChange numberDivisorsSpec)

/-- ITS FALSE NEIGHBOUR: 'it returns false'. Refute it at one input. -/
def numberDivisorsWrong : ChangeSpec := { name := "numberDivisors", fn := fun _ => fun
  | [d1, d2] => { results := [.lit (.bool false)], args := [d1, d2] }
  | _ => none }
def NumberDivisorsWrongFalsely : Prop := numberDivisorsRow.holds Tryz.pinned (OpenSpec.ofChange numberDivisorsWrong)

/-- 'mjolnerlaw01.NumberBases': WHATEVER THE INPUT: true; the input reads as it did. -/
def numberBasesSpec : ChangeSpec := { name := "numberBases", fn := fun _ => fun
  | [d1, d2, d3] => { results := [.lit (.bool true)], args := [d1, d2, d3] }
  | _ => none }
def numberBasesRow : OpenClaim := { program := "ytbjgpbdkofadiaagreatdoor", sum := "22f33cb0d7cfdc6144bcd0bad2e41b2684bec20796dc0d2db9b2023bb897abd8", func := "mjolner/mjolnerlaw01.NumberBases", spec := "numberBases", inPlace := ["internal/abi.NoEscape", "internal/bytealg.MakeNoZero"], unfollowed := true, recurses := true, named := ["internal/strconv.uint64pow10", "math/bits.deBruijn32tab", "math/bits.deBruijn64tab", "strconv.ErrSyntax", "strconv.ErrRange", "mjolner/number.digit"], apart := false, laid := [("math/bits.deBruijn32tab", laid_math_bits_deBruijn32tab), ("math/bits.deBruijn64tab", laid_math_bits_deBruijn64tab), ("internal/strconv.uint64pow10", laid_internal_strconv_uint64pow10), ("strconv.ErrRange", laid_strconv_ErrRange), ("strconv.ErrSyntax", laid_strconv_ErrSyntax), ("mjolner/number.digit", laid_mjolner_number_digit)] }
def NumberBasesSaid : Prop := numberBasesRow.holds Tryz.pinned (OpenSpec.ofChange numberBasesSpec)

/-- ITS FALSE NEIGHBOUR: 'it returns false'. Refute it at one input. -/
def numberBasesWrong : ChangeSpec := { name := "numberBases", fn := fun _ => fun
  | [d1, d2, d3] => { results := [.lit (.bool false)], args := [d1, d2, d3] }
  | _ => none }
def NumberBasesWrongFalsely : Prop := numberBasesRow.holds Tryz.pinned (OpenSpec.ofChange numberBasesWrong)

/-- 'mjolnerlaw01.NumberPowers': WHATEVER THE INPUT: true; the input reads as it did. -/
def numberPowersSpec : ChangeSpec := { name := "numberPowers", fn := fun _ => fun
  | [d1, d2, d3] => { results := [.lit (.bool true)], args := [d1, d2, d3] }
  | _ => none }
def numberPowersRow : OpenClaim := { program := "ytbjgpbdkofadiaagreatdoor", sum := "22f33cb0d7cfdc6144bcd0bad2e41b2684bec20796dc0d2db9b2023bb897abd8", func := "mjolner/mjolnerlaw01.NumberPowers", spec := "numberPowers", inPlace := ["internal/abi.NoEscape", "internal/bytealg.MakeNoZero"], unfollowed := true, recurses := true, named := ["internal/strconv.uint64pow10", "math/bits.deBruijn32tab", "math/bits.deBruijn64tab", "strconv.ErrSyntax", "strconv.ErrRange", "mjolner/number.digit"], apart := false, laid := [("math/bits.deBruijn32tab", laid_math_bits_deBruijn32tab), ("math/bits.deBruijn64tab", laid_math_bits_deBruijn64tab), ("internal/strconv.uint64pow10", laid_internal_strconv_uint64pow10), ("strconv.ErrRange", laid_strconv_ErrRange), ("strconv.ErrSyntax", laid_strconv_ErrSyntax), ("mjolner/number.digit", laid_mjolner_number_digit)] }
def NumberPowersSaid : Prop := numberPowersRow.holds Tryz.pinned (OpenSpec.ofChange numberPowersSpec)

/-- ITS FALSE NEIGHBOUR: 'it returns false'. Refute it at one input. -/
def numberPowersWrong : ChangeSpec := { name := "numberPowers", fn := fun _ => fun
  | [d1, d2, d3] => { results := [.lit (.bool false)], args := [d1, d2, d3] }
  | _ => none }
def NumberPowersWrongFalsely : Prop := numberPowersRow.holds Tryz.pinned (OpenSpec.ofChange numberPowersWrong)

/-- 'mjolnerlaw01.NumberBack': WHATEVER THE INPUT: true; the input reads as it did. -/
def numberBackSpec : ChangeSpec := { name := "numberBack", fn := fun _ => fun
  | [d1, d2, d3] => { results := [.lit (.bool true)], args := [d1, d2, d3] }
  | _ => none }
def numberBackRow : OpenClaim := { program := "ytbjgpbdkofadiaagreatdoor", sum := "22f33cb0d7cfdc6144bcd0bad2e41b2684bec20796dc0d2db9b2023bb897abd8", func := "mjolner/mjolnerlaw01.NumberBack", spec := "numberBack", inPlace := ["internal/abi.NoEscape", "internal/bytealg.MakeNoZero"], unfollowed := true, recurses := true, named := ["internal/strconv.uint64pow10", "math/bits.deBruijn32tab", "math/bits.deBruijn64tab", "strconv.ErrSyntax", "strconv.ErrRange", "mjolner/number.digit"], apart := false, laid := [("math/bits.deBruijn32tab", laid_math_bits_deBruijn32tab), ("math/bits.deBruijn64tab", laid_math_bits_deBruijn64tab), ("internal/strconv.uint64pow10", laid_internal_strconv_uint64pow10), ("strconv.ErrRange", laid_strconv_ErrRange), ("strconv.ErrSyntax", laid_strconv_ErrSyntax), ("mjolner/number.digit", laid_mjolner_number_digit)] }
def NumberBackSaid : Prop := numberBackRow.holds Tryz.pinned (OpenSpec.ofChange numberBackSpec)

/-- ITS FALSE NEIGHBOUR: 'it returns false'. Refute it at one input. -/
def numberBackWrong : ChangeSpec := { name := "numberBack", fn := fun _ => fun
  | [d1, d2, d3] => { results := [.lit (.bool false)], args := [d1, d2, d3] }
  | _ => none }
def NumberBackWrongFalsely : Prop := numberBackRow.holds Tryz.pinned (OpenSpec.ofChange numberBackWrong)

/-- 'mjolnerlaw01.NumberRing': WHATEVER THE INPUT: true; the input reads as it did. -/
def numberRingSpec : ChangeSpec := { name := "numberRing", fn := fun _ => fun
  | [d1, d2, d3] => { results := [.lit (.bool true)], args := [d1, d2, d3] }
  | _ => none }
def numberRingRow : OpenClaim := { program := "ytbjgpbdkofadiaagreatdoor", sum := "22f33cb0d7cfdc6144bcd0bad2e41b2684bec20796dc0d2db9b2023bb897abd8", func := "mjolner/mjolnerlaw01.NumberRing", spec := "numberRing", inPlace := ["internal/abi.NoEscape", "internal/bytealg.MakeNoZero"], unfollowed := true, recurses := true, named := ["internal/strconv.uint64pow10", "math/bits.deBruijn32tab", "math/bits.deBruijn64tab", "strconv.ErrSyntax", "strconv.ErrRange", "mjolner/number.digit"], apart := false, laid := [("math/bits.deBruijn32tab", laid_math_bits_deBruijn32tab), ("math/bits.deBruijn64tab", laid_math_bits_deBruijn64tab), ("internal/strconv.uint64pow10", laid_internal_strconv_uint64pow10), ("strconv.ErrRange", laid_strconv_ErrRange), ("strconv.ErrSyntax", laid_strconv_ErrSyntax), ("mjolner/number.digit", laid_mjolner_number_digit)] }
def NumberRingSaid : Prop := numberRingRow.holds Tryz.pinned (OpenSpec.ofChange numberRingSpec)

/-- ITS FALSE NEIGHBOUR: 'it returns false'. Refute it at one input. -/
def numberRingWrong : ChangeSpec := { name := "numberRing", fn := fun _ => fun
  | [d1, d2, d3] => { results := [.lit (.bool false)], args := [d1, d2, d3] }
  | _ => none }
def NumberRingWrongFalsely : Prop := numberRingRow.holds Tryz.pinned (OpenSpec.ofChange numberRingWrong)

/-- 'mjolnerlaw01.NumberSums': WHATEVER THE INPUT: true; the input reads as it did. -/
def numberSumsSpec : ChangeSpec := { name := "numberSums", fn := fun _ => fun
  | [d1, d2] => { results := [.lit (.bool true)], args := [d1, d2] }
  | _ => none }
def numberSumsRow : OpenClaim := { program := "ytbjgpbdkofadiaagreatdoor", sum := "22f33cb0d7cfdc6144bcd0bad2e41b2684bec20796dc0d2db9b2023bb897abd8", func := "mjolner/mjolnerlaw01.NumberSums", spec := "numberSums", inPlace := ["internal/abi.NoEscape", "internal/bytealg.MakeNoZero"], unfollowed := true, recurses := true, named := ["internal/strconv.uint64pow10", "math/bits.deBruijn32tab", "math/bits.deBruijn64tab", "strconv.ErrSyntax", "strconv.ErrRange", "mjolner/number.digit"], apart := false, laid := [("math/bits.deBruijn32tab", laid_math_bits_deBruijn32tab), ("math/bits.deBruijn64tab", laid_math_bits_deBruijn64tab), ("internal/strconv.uint64pow10", laid_internal_strconv_uint64pow10), ("strconv.ErrRange", laid_strconv_ErrRange), ("strconv.ErrSyntax", laid_strconv_ErrSyntax), ("mjolner/number.digit", laid_mjolner_number_digit)] }
def NumberSumsSaid : Prop := numberSumsRow.holds Tryz.pinned (OpenSpec.ofChange numberSumsSpec)

/-- ITS FALSE NEIGHBOUR: 'it returns false'. Refute it at one input. -/
def numberSumsWrong : ChangeSpec := { name := "numberSums", fn := fun _ => fun
  | [d1, d2] => { results := [.lit (.bool false)], args := [d1, d2] }
  | _ => none }
def NumberSumsWrongFalsely : Prop := numberSumsRow.holds Tryz.pinned (OpenSpec.ofChange numberSumsWrong)

/-- 'mjolnerlaw01.NumberOrder': WHATEVER THE INPUT: true; the input reads as it did. -/
def numberOrderSpec : ChangeSpec := { name := "numberOrder", fn := fun _ => fun
  | [d1, d2, d3] => { results := [.lit (.bool true)], args := [d1, d2, d3] }
  | _ => none }
def numberOrderRow : OpenClaim := { program := "ytbjgpbdkofadiaagreatdoor", sum := "22f33cb0d7cfdc6144bcd0bad2e41b2684bec20796dc0d2db9b2023bb897abd8", func := "mjolner/mjolnerlaw01.NumberOrder", spec := "numberOrder", inPlace := ["internal/abi.NoEscape", "internal/bytealg.MakeNoZero"], unfollowed := true, recurses := true, named := ["internal/strconv.uint64pow10", "math/bits.deBruijn32tab", "math/bits.deBruijn64tab", "strconv.ErrSyntax", "strconv.ErrRange", "mjolner/number.digit"], apart := false, laid := [("math/bits.deBruijn32tab", laid_math_bits_deBruijn32tab), ("math/bits.deBruijn64tab", laid_math_bits_deBruijn64tab), ("internal/strconv.uint64pow10", laid_internal_strconv_uint64pow10), ("strconv.ErrRange", laid_strconv_ErrRange), ("strconv.ErrSyntax", laid_strconv_ErrSyntax), ("mjolner/number.digit", laid_mjolner_number_digit)] }
def NumberOrderSaid : Prop := numberOrderRow.holds Tryz.pinned (OpenSpec.ofChange numberOrderSpec)

/-- ITS FALSE NEIGHBOUR: 'it returns false'. Refute it at one input. -/
def numberOrderWrong : ChangeSpec := { name := "numberOrder", fn := fun _ => fun
  | [d1, d2, d3] => { results := [.lit (.bool false)], args := [d1, d2, d3] }
  | _ => none }
def NumberOrderWrongFalsely : Prop := numberOrderRow.holds Tryz.pinned (OpenSpec.ofChange numberOrderWrong)

/-- 'mjolnerlaw01.NumberGcd': WHATEVER THE INPUT: true; the input reads as it did. -/
def numberGcdSpec : ChangeSpec := { name := "numberGcd", fn := fun _ => fun
  | [d1, d2, d3] => { results := [.lit (.bool true)], args := [d1, d2, d3] }
  | _ => none }
def numberGcdRow : OpenClaim := { program := "ytbjgpbdkofadiaagreatdoor", sum := "22f33cb0d7cfdc6144bcd0bad2e41b2684bec20796dc0d2db9b2023bb897abd8", func := "mjolner/mjolnerlaw01.NumberGcd", spec := "numberGcd", inPlace := ["internal/abi.NoEscape", "internal/bytealg.MakeNoZero"], unfollowed := true, recurses := true, named := ["internal/strconv.uint64pow10", "math/bits.deBruijn32tab", "math/bits.deBruijn64tab", "strconv.ErrSyntax", "strconv.ErrRange", "mjolner/number.digit"], apart := false, laid := [("math/bits.deBruijn32tab", laid_math_bits_deBruijn32tab), ("math/bits.deBruijn64tab", laid_math_bits_deBruijn64tab), ("internal/strconv.uint64pow10", laid_internal_strconv_uint64pow10), ("strconv.ErrRange", laid_strconv_ErrRange), ("strconv.ErrSyntax", laid_strconv_ErrSyntax), ("mjolner/number.digit", laid_mjolner_number_digit)] }
def NumberGcdSaid : Prop := numberGcdRow.holds Tryz.pinned (OpenSpec.ofChange numberGcdSpec)

/-- ITS FALSE NEIGHBOUR: 'it returns false'. Refute it at one input. -/
def numberGcdWrong : ChangeSpec := { name := "numberGcd", fn := fun _ => fun
  | [d1, d2, d3] => { results := [.lit (.bool false)], args := [d1, d2, d3] }
  | _ => none }
def NumberGcdWrongFalsely : Prop := numberGcdRow.holds Tryz.pinned (OpenSpec.ofChange numberGcdWrong)

/-- 'mjolnerlaw01.NumberRoots': WHATEVER THE INPUT: true; the input reads as it did. -/
def numberRootsSpec : ChangeSpec := { name := "numberRoots", fn := fun _ => fun
  | [d] => { results := [.lit (.bool true)], args := [d] }
  | _ => none }
def numberRootsRow : OpenClaim := { program := "ytbjgpbdkofadiaagreatdoor", sum := "22f33cb0d7cfdc6144bcd0bad2e41b2684bec20796dc0d2db9b2023bb897abd8", func := "mjolner/mjolnerlaw01.NumberRoots", spec := "numberRoots", inPlace := ["internal/abi.NoEscape", "internal/bytealg.MakeNoZero"], unfollowed := true, recurses := true, named := ["internal/strconv.uint64pow10", "math/bits.deBruijn32tab", "math/bits.deBruijn64tab", "strconv.ErrSyntax", "strconv.ErrRange", "mjolner/number.digit"], apart := false, laid := [("math/bits.deBruijn32tab", laid_math_bits_deBruijn32tab), ("math/bits.deBruijn64tab", laid_math_bits_deBruijn64tab), ("internal/strconv.uint64pow10", laid_internal_strconv_uint64pow10), ("strconv.ErrRange", laid_strconv_ErrRange), ("strconv.ErrSyntax", laid_strconv_ErrSyntax), ("mjolner/number.digit", laid_mjolner_number_digit)] }
def NumberRootsSaid : Prop := numberRootsRow.holds Tryz.pinned (OpenSpec.ofChange numberRootsSpec)

/-- ITS FALSE NEIGHBOUR: 'it returns false'. Refute it at one input. -/
def numberRootsWrong : ChangeSpec := { name := "numberRoots", fn := fun _ => fun
  | [d] => { results := [.lit (.bool false)], args := [d] }
  | _ => none }
def NumberRootsWrongFalsely : Prop := numberRootsRow.holds Tryz.pinned (OpenSpec.ofChange numberRootsWrong)

/-- 'mjolnerlaw01.NumberDivision': WHATEVER THE INPUT: true; the input reads as it did. -/
def numberDivisionSpec : ChangeSpec := { name := "numberDivision", fn := fun _ => fun
  | [d1, d2] => { results := [.lit (.bool true)], args := [d1, d2] }
  | _ => none }
def numberDivisionRow : OpenClaim := { program := "ytbjgpbdkofadiaagreatdoor", sum := "22f33cb0d7cfdc6144bcd0bad2e41b2684bec20796dc0d2db9b2023bb897abd8", func := "mjolner/mjolnerlaw01.NumberDivision", spec := "numberDivision", inPlace := ["internal/abi.NoEscape", "internal/bytealg.MakeNoZero"], unfollowed := true, recurses := true, named := ["internal/strconv.uint64pow10", "math/bits.deBruijn32tab", "math/bits.deBruijn64tab", "strconv.ErrSyntax", "strconv.ErrRange", "mjolner/number.digit"], apart := false, laid := [("math/bits.deBruijn32tab", laid_math_bits_deBruijn32tab), ("math/bits.deBruijn64tab", laid_math_bits_deBruijn64tab), ("internal/strconv.uint64pow10", laid_internal_strconv_uint64pow10), ("strconv.ErrRange", laid_strconv_ErrRange), ("strconv.ErrSyntax", laid_strconv_ErrSyntax), ("mjolner/number.digit", laid_mjolner_number_digit)] }
def NumberDivisionSaid : Prop := numberDivisionRow.holds Tryz.pinned (OpenSpec.ofChange numberDivisionSpec)

/-- ITS FALSE NEIGHBOUR: 'it returns false'. Refute it at one input. -/
def numberDivisionWrong : ChangeSpec := { name := "numberDivision", fn := fun _ => fun
  | [d1, d2] => { results := [.lit (.bool false)], args := [d1, d2] }
  | _ => none }
def NumberDivisionWrongFalsely : Prop := numberDivisionRow.holds Tryz.pinned (OpenSpec.ofChange numberDivisionWrong)

/-- 'mjolnerlaw01.NumberMachine': WHATEVER THE INPUT: true; the input reads as it did. -/
def numberMachineSpec : ChangeSpec := { name := "numberMachine", fn := fun _ => fun
  | [d1, d2] => { results := [.lit (.bool true)], args := [d1, d2] }
  | _ => none }
def numberMachineRow : OpenClaim := { program := "ytbjgpbdkofadiaagreatdoor", sum := "22f33cb0d7cfdc6144bcd0bad2e41b2684bec20796dc0d2db9b2023bb897abd8", func := "mjolner/mjolnerlaw01.NumberMachine", spec := "numberMachine", inPlace := ["internal/abi.NoEscape", "internal/bytealg.MakeNoZero"], unfollowed := true, recurses := true, named := ["internal/strconv.uint64pow10", "math/bits.deBruijn32tab", "math/bits.deBruijn64tab", "strconv.ErrSyntax", "strconv.ErrRange", "mjolner/number.digit"], apart := false, laid := [("math/bits.deBruijn32tab", laid_math_bits_deBruijn32tab), ("math/bits.deBruijn64tab", laid_math_bits_deBruijn64tab), ("internal/strconv.uint64pow10", laid_internal_strconv_uint64pow10), ("strconv.ErrRange", laid_strconv_ErrRange), ("strconv.ErrSyntax", laid_strconv_ErrSyntax), ("mjolner/number.digit", laid_mjolner_number_digit)] }
def NumberMachineSaid : Prop := numberMachineRow.holds Tryz.pinned (OpenSpec.ofChange numberMachineSpec)

/-- ITS FALSE NEIGHBOUR: 'it returns false'. Refute it at one input. -/
def numberMachineWrong : ChangeSpec := { name := "numberMachine", fn := fun _ => fun
  | [d1, d2] => { results := [.lit (.bool false)], args := [d1, d2] }
  | _ => none }
def NumberMachineWrongFalsely : Prop := numberMachineRow.holds Tryz.pinned (OpenSpec.ofChange numberMachineWrong)

/-- 'mjolnerlaw01.NumberTexts': WHATEVER THE INPUT: true; the input reads as it did. -/
def numberTextsSpec : ChangeSpec := { name := "numberTexts", fn := fun _ => fun
  | [d1, d2] => { results := [.lit (.bool true)], args := [d1, d2] }
  | _ => none }
def numberTextsRow : OpenClaim := { program := "ytbjgpbdkofadiaagreatdoor", sum := "22f33cb0d7cfdc6144bcd0bad2e41b2684bec20796dc0d2db9b2023bb897abd8", func := "mjolner/mjolnerlaw01.NumberTexts", spec := "numberTexts", inPlace := ["internal/abi.NoEscape", "internal/bytealg.MakeNoZero"], unfollowed := true, recurses := true, named := ["internal/strconv.uint64pow10", "math/bits.deBruijn32tab", "math/bits.deBruijn64tab", "strconv.ErrSyntax", "strconv.ErrRange", "mjolner/number.digit"], apart := false, laid := [("math/bits.deBruijn32tab", laid_math_bits_deBruijn32tab), ("math/bits.deBruijn64tab", laid_math_bits_deBruijn64tab), ("internal/strconv.uint64pow10", laid_internal_strconv_uint64pow10), ("strconv.ErrRange", laid_strconv_ErrRange), ("strconv.ErrSyntax", laid_strconv_ErrSyntax), ("mjolner/number.digit", laid_mjolner_number_digit)] }
def NumberTextsSaid : Prop := numberTextsRow.holds Tryz.pinned (OpenSpec.ofChange numberTextsSpec)

/-- ITS FALSE NEIGHBOUR: 'it returns false'. Refute it at one input. -/
def numberTextsWrong : ChangeSpec := { name := "numberTexts", fn := fun _ => fun
  | [d1, d2] => { results := [.lit (.bool false)], args := [d1, d2] }
  | _ => none }
def NumberTextsWrongFalsely : Prop := numberTextsRow.holds Tryz.pinned (OpenSpec.ofChange numberTextsWrong)

/- THE SECOND FORM. 'bulk': how many values and letters a reading holds, each counted each time it is reached (what is shared counts as often as it is met; a slice's spare places count too). A statement '..UptoSaid' is the law's where the arguments, and the package variables that the reading takes, are together of bulk at most 1048576: NARROWER than '..Said'. Prove '..Said' where nothing that the law and all that it calls make is longer than what came in: it says more and counts as full. Else prove '..UptoSaid'. A law counts once. -/
mutual
def uptoBulk {H : Type} : DataW H → Nat
  | .lit (.string bytes) => bytes.length + 1
  | .lit _ => 1
  | .nil => 1
  | .ptr d => uptoBulk d + 1
  | .slice elems spare => uptoBulkAll elems + uptoBulkAll spare + 1
  | .agg parts => uptoBulkAll parts + 1
  | .iface _ d => uptoBulk d + 1
  | .map entries => uptoBulkEntries entries + 1
  | .held _ => 1
def uptoBulkAll {H : Type} : List (DataW H) → Nat
  | [] => 0
  | d :: r => uptoBulk d + uptoBulkAll r
def uptoBulkEntries {H : Type} : List (Lit × DataW H) → Nat
  | [] => 0
  | x :: r => uptoBulkEntry x + uptoBulkEntries r
def uptoBulkEntry {H : Type} : Lit × DataW H → Nat
  | (.string bytes, d) => bytes.length + uptoBulk d + 1
  | (_, d) => uptoBulk d + 1
 end
def uptoSmall : (H : Type) → List (DataW H) → Bool := fun _ ds => decide (uptoBulkAll ds ≤ 1048576)
def OpenSpec.upto (s : _root_.Go.ChangeSpec) : _root_.Go.OpenSpec := { _root_.Go.OpenSpec.ofChange s with cond := some uptoSmall }

/-- 'mjolnerlaw01.NumberProducts', WHERE WHAT IT READS IS OF BULK AT MOST 1048576: true; the input reads as it did. -/
def numberProductsUptoRow : OpenClaim := { program := "ytbjgpbdkofadiaagreatdoor", sum := "22f33cb0d7cfdc6144bcd0bad2e41b2684bec20796dc0d2db9b2023bb897abd8", func := "mjolner/mjolnerlaw01.NumberProducts", spec := "numberProducts", inPlace := ["internal/abi.NoEscape", "internal/bytealg.MakeNoZero"], unfollowed := true, recurses := true, named := ["internal/strconv.uint64pow10", "math/bits.deBruijn32tab", "math/bits.deBruijn64tab", "strconv.ErrSyntax", "strconv.ErrRange", "mjolner/number.digit"], apart := false, laid := [("math/bits.deBruijn32tab", laid_math_bits_deBruijn32tab), ("math/bits.deBruijn64tab", laid_math_bits_deBruijn64tab), ("internal/strconv.uint64pow10", laid_internal_strconv_uint64pow10), ("strconv.ErrRange", laid_strconv_ErrRange), ("strconv.ErrSyntax", laid_strconv_ErrSyntax), ("mjolner/number.digit", laid_mjolner_number_digit)], narrowed := true }
def NumberProductsUptoSaid : Prop := numberProductsUptoRow.holds Tryz.pinned (OpenSpec.upto numberProductsSpec)

/-- 'mjolnerlaw01.NumberQuotients', WHERE WHAT IT READS IS OF BULK AT MOST 1048576: true; the input reads as it did. -/
def numberQuotientsUptoRow : OpenClaim := { program := "ytbjgpbdkofadiaagreatdoor", sum := "22f33cb0d7cfdc6144bcd0bad2e41b2684bec20796dc0d2db9b2023bb897abd8", func := "mjolner/mjolnerlaw01.NumberQuotients", spec := "numberQuotients", inPlace := ["internal/abi.NoEscape", "internal/bytealg.MakeNoZero"], unfollowed := true, recurses := true, named := ["internal/strconv.uint64pow10", "math/bits.deBruijn32tab", "math/bits.deBruijn64tab", "strconv.ErrSyntax", "strconv.ErrRange", "mjolner/number.digit"], apart := false, laid := [("math/bits.deBruijn32tab", laid_math_bits_deBruijn32tab), ("math/bits.deBruijn64tab", laid_math_bits_deBruijn64tab), ("internal/strconv.uint64pow10", laid_internal_strconv_uint64pow10), ("strconv.ErrRange", laid_strconv_ErrRange), ("strconv.ErrSyntax", laid_strconv_ErrSyntax), ("mjolner/number.digit", laid_mjolner_number_digit)], narrowed := true }
def NumberQuotientsUptoSaid : Prop := numberQuotientsUptoRow.holds Tryz.pinned (OpenSpec.upto numberQuotientsSpec)

/-- 'mjolnerlaw01.NumberDivisors', WHERE WHAT IT READS IS OF BULK AT MOST 1048576: true; the input reads as it did. -/
def numberDivisorsUptoRow : OpenClaim := { program := "ytbjgpbdkofadiaagreatdoor", sum := "22f33cb0d7cfdc6144bcd0bad2e41b2684bec20796dc0d2db9b2023bb897abd8", func := "mjolner/mjolnerlaw01.NumberDivisors", spec := "numberDivisors", inPlace := ["internal/abi.NoEscape", "internal/bytealg.MakeNoZero"], unfollowed := true, recurses := true, named := ["internal/strconv.uint64pow10", "math/bits.deBruijn32tab", "math/bits.deBruijn64tab", "strconv.ErrSyntax", "strconv.ErrRange", "mjolner/number.digit"], apart := false, laid := [("math/bits.deBruijn32tab", laid_math_bits_deBruijn32tab), ("math/bits.deBruijn64tab", laid_math_bits_deBruijn64tab), ("internal/strconv.uint64pow10", laid_internal_strconv_uint64pow10), ("strconv.ErrRange", laid_strconv_ErrRange), ("strconv.ErrSyntax", laid_strconv_ErrSyntax), ("mjolner/number.digit", laid_mjolner_number_digit)], narrowed := true }
def NumberDivisorsUptoSaid : Prop := numberDivisorsUptoRow.holds Tryz.pinned (OpenSpec.upto numberDivisorsSpec)

/-- 'mjolnerlaw01.NumberBases', WHERE WHAT IT READS IS OF BULK AT MOST 1048576: true; the input reads as it did. -/
def numberBasesUptoRow : OpenClaim := { program := "ytbjgpbdkofadiaagreatdoor", sum := "22f33cb0d7cfdc6144bcd0bad2e41b2684bec20796dc0d2db9b2023bb897abd8", func := "mjolner/mjolnerlaw01.NumberBases", spec := "numberBases", inPlace := ["internal/abi.NoEscape", "internal/bytealg.MakeNoZero"], unfollowed := true, recurses := true, named := ["internal/strconv.uint64pow10", "math/bits.deBruijn32tab", "math/bits.deBruijn64tab", "strconv.ErrSyntax", "strconv.ErrRange", "mjolner/number.digit"], apart := false, laid := [("math/bits.deBruijn32tab", laid_math_bits_deBruijn32tab), ("math/bits.deBruijn64tab", laid_math_bits_deBruijn64tab), ("internal/strconv.uint64pow10", laid_internal_strconv_uint64pow10), ("strconv.ErrRange", laid_strconv_ErrRange), ("strconv.ErrSyntax", laid_strconv_ErrSyntax), ("mjolner/number.digit", laid_mjolner_number_digit)], narrowed := true }
def NumberBasesUptoSaid : Prop := numberBasesUptoRow.holds Tryz.pinned (OpenSpec.upto numberBasesSpec)

/-- 'mjolnerlaw01.NumberPowers', WHERE WHAT IT READS IS OF BULK AT MOST 1048576: true; the input reads as it did. -/
def numberPowersUptoRow : OpenClaim := { program := "ytbjgpbdkofadiaagreatdoor", sum := "22f33cb0d7cfdc6144bcd0bad2e41b2684bec20796dc0d2db9b2023bb897abd8", func := "mjolner/mjolnerlaw01.NumberPowers", spec := "numberPowers", inPlace := ["internal/abi.NoEscape", "internal/bytealg.MakeNoZero"], unfollowed := true, recurses := true, named := ["internal/strconv.uint64pow10", "math/bits.deBruijn32tab", "math/bits.deBruijn64tab", "strconv.ErrSyntax", "strconv.ErrRange", "mjolner/number.digit"], apart := false, laid := [("math/bits.deBruijn32tab", laid_math_bits_deBruijn32tab), ("math/bits.deBruijn64tab", laid_math_bits_deBruijn64tab), ("internal/strconv.uint64pow10", laid_internal_strconv_uint64pow10), ("strconv.ErrRange", laid_strconv_ErrRange), ("strconv.ErrSyntax", laid_strconv_ErrSyntax), ("mjolner/number.digit", laid_mjolner_number_digit)], narrowed := true }
def NumberPowersUptoSaid : Prop := numberPowersUptoRow.holds Tryz.pinned (OpenSpec.upto numberPowersSpec)

/-- 'mjolnerlaw01.NumberBack', WHERE WHAT IT READS IS OF BULK AT MOST 1048576: true; the input reads as it did. -/
def numberBackUptoRow : OpenClaim := { program := "ytbjgpbdkofadiaagreatdoor", sum := "22f33cb0d7cfdc6144bcd0bad2e41b2684bec20796dc0d2db9b2023bb897abd8", func := "mjolner/mjolnerlaw01.NumberBack", spec := "numberBack", inPlace := ["internal/abi.NoEscape", "internal/bytealg.MakeNoZero"], unfollowed := true, recurses := true, named := ["internal/strconv.uint64pow10", "math/bits.deBruijn32tab", "math/bits.deBruijn64tab", "strconv.ErrSyntax", "strconv.ErrRange", "mjolner/number.digit"], apart := false, laid := [("math/bits.deBruijn32tab", laid_math_bits_deBruijn32tab), ("math/bits.deBruijn64tab", laid_math_bits_deBruijn64tab), ("internal/strconv.uint64pow10", laid_internal_strconv_uint64pow10), ("strconv.ErrRange", laid_strconv_ErrRange), ("strconv.ErrSyntax", laid_strconv_ErrSyntax), ("mjolner/number.digit", laid_mjolner_number_digit)], narrowed := true }
def NumberBackUptoSaid : Prop := numberBackUptoRow.holds Tryz.pinned (OpenSpec.upto numberBackSpec)

/-- 'mjolnerlaw01.NumberRing', WHERE WHAT IT READS IS OF BULK AT MOST 1048576: true; the input reads as it did. -/
def numberRingUptoRow : OpenClaim := { program := "ytbjgpbdkofadiaagreatdoor", sum := "22f33cb0d7cfdc6144bcd0bad2e41b2684bec20796dc0d2db9b2023bb897abd8", func := "mjolner/mjolnerlaw01.NumberRing", spec := "numberRing", inPlace := ["internal/abi.NoEscape", "internal/bytealg.MakeNoZero"], unfollowed := true, recurses := true, named := ["internal/strconv.uint64pow10", "math/bits.deBruijn32tab", "math/bits.deBruijn64tab", "strconv.ErrSyntax", "strconv.ErrRange", "mjolner/number.digit"], apart := false, laid := [("math/bits.deBruijn32tab", laid_math_bits_deBruijn32tab), ("math/bits.deBruijn64tab", laid_math_bits_deBruijn64tab), ("internal/strconv.uint64pow10", laid_internal_strconv_uint64pow10), ("strconv.ErrRange", laid_strconv_ErrRange), ("strconv.ErrSyntax", laid_strconv_ErrSyntax), ("mjolner/number.digit", laid_mjolner_number_digit)], narrowed := true }
def NumberRingUptoSaid : Prop := numberRingUptoRow.holds Tryz.pinned (OpenSpec.upto numberRingSpec)

/-- 'mjolnerlaw01.NumberSums', WHERE WHAT IT READS IS OF BULK AT MOST 1048576: true; the input reads as it did. -/
def numberSumsUptoRow : OpenClaim := { program := "ytbjgpbdkofadiaagreatdoor", sum := "22f33cb0d7cfdc6144bcd0bad2e41b2684bec20796dc0d2db9b2023bb897abd8", func := "mjolner/mjolnerlaw01.NumberSums", spec := "numberSums", inPlace := ["internal/abi.NoEscape", "internal/bytealg.MakeNoZero"], unfollowed := true, recurses := true, named := ["internal/strconv.uint64pow10", "math/bits.deBruijn32tab", "math/bits.deBruijn64tab", "strconv.ErrSyntax", "strconv.ErrRange", "mjolner/number.digit"], apart := false, laid := [("math/bits.deBruijn32tab", laid_math_bits_deBruijn32tab), ("math/bits.deBruijn64tab", laid_math_bits_deBruijn64tab), ("internal/strconv.uint64pow10", laid_internal_strconv_uint64pow10), ("strconv.ErrRange", laid_strconv_ErrRange), ("strconv.ErrSyntax", laid_strconv_ErrSyntax), ("mjolner/number.digit", laid_mjolner_number_digit)], narrowed := true }
def NumberSumsUptoSaid : Prop := numberSumsUptoRow.holds Tryz.pinned (OpenSpec.upto numberSumsSpec)

/-- 'mjolnerlaw01.NumberOrder', WHERE WHAT IT READS IS OF BULK AT MOST 1048576: true; the input reads as it did. -/
def numberOrderUptoRow : OpenClaim := { program := "ytbjgpbdkofadiaagreatdoor", sum := "22f33cb0d7cfdc6144bcd0bad2e41b2684bec20796dc0d2db9b2023bb897abd8", func := "mjolner/mjolnerlaw01.NumberOrder", spec := "numberOrder", inPlace := ["internal/abi.NoEscape", "internal/bytealg.MakeNoZero"], unfollowed := true, recurses := true, named := ["internal/strconv.uint64pow10", "math/bits.deBruijn32tab", "math/bits.deBruijn64tab", "strconv.ErrSyntax", "strconv.ErrRange", "mjolner/number.digit"], apart := false, laid := [("math/bits.deBruijn32tab", laid_math_bits_deBruijn32tab), ("math/bits.deBruijn64tab", laid_math_bits_deBruijn64tab), ("internal/strconv.uint64pow10", laid_internal_strconv_uint64pow10), ("strconv.ErrRange", laid_strconv_ErrRange), ("strconv.ErrSyntax", laid_strconv_ErrSyntax), ("mjolner/number.digit", laid_mjolner_number_digit)], narrowed := true }
def NumberOrderUptoSaid : Prop := numberOrderUptoRow.holds Tryz.pinned (OpenSpec.upto numberOrderSpec)

/-- 'mjolnerlaw01.NumberGcd', WHERE WHAT IT READS IS OF BULK AT MOST 1048576: true; the input reads as it did. -/
def numberGcdUptoRow : OpenClaim := { program := "ytbjgpbdkofadiaagreatdoor", sum := "22f33cb0d7cfdc6144bcd0bad2e41b2684bec20796dc0d2db9b2023bb897abd8", func := "mjolner/mjolnerlaw01.NumberGcd", spec := "numberGcd", inPlace := ["internal/abi.NoEscape", "internal/bytealg.MakeNoZero"], unfollowed := true, recurses := true, named := ["internal/strconv.uint64pow10", "math/bits.deBruijn32tab", "math/bits.deBruijn64tab", "strconv.ErrSyntax", "strconv.ErrRange", "mjolner/number.digit"], apart := false, laid := [("math/bits.deBruijn32tab", laid_math_bits_deBruijn32tab), ("math/bits.deBruijn64tab", laid_math_bits_deBruijn64tab), ("internal/strconv.uint64pow10", laid_internal_strconv_uint64pow10), ("strconv.ErrRange", laid_strconv_ErrRange), ("strconv.ErrSyntax", laid_strconv_ErrSyntax), ("mjolner/number.digit", laid_mjolner_number_digit)], narrowed := true }
def NumberGcdUptoSaid : Prop := numberGcdUptoRow.holds Tryz.pinned (OpenSpec.upto numberGcdSpec)

/-- 'mjolnerlaw01.NumberRoots', WHERE WHAT IT READS IS OF BULK AT MOST 1048576: true; the input reads as it did. -/
def numberRootsUptoRow : OpenClaim := { program := "ytbjgpbdkofadiaagreatdoor", sum := "22f33cb0d7cfdc6144bcd0bad2e41b2684bec20796dc0d2db9b2023bb897abd8", func := "mjolner/mjolnerlaw01.NumberRoots", spec := "numberRoots", inPlace := ["internal/abi.NoEscape", "internal/bytealg.MakeNoZero"], unfollowed := true, recurses := true, named := ["internal/strconv.uint64pow10", "math/bits.deBruijn32tab", "math/bits.deBruijn64tab", "strconv.ErrSyntax", "strconv.ErrRange", "mjolner/number.digit"], apart := false, laid := [("math/bits.deBruijn32tab", laid_math_bits_deBruijn32tab), ("math/bits.deBruijn64tab", laid_math_bits_deBruijn64tab), ("internal/strconv.uint64pow10", laid_internal_strconv_uint64pow10), ("strconv.ErrRange", laid_strconv_ErrRange), ("strconv.ErrSyntax", laid_strconv_ErrSyntax), ("mjolner/number.digit", laid_mjolner_number_digit)], narrowed := true }
def NumberRootsUptoSaid : Prop := numberRootsUptoRow.holds Tryz.pinned (OpenSpec.upto numberRootsSpec)

/-- 'mjolnerlaw01.NumberDivision', WHERE WHAT IT READS IS OF BULK AT MOST 1048576: true; the input reads as it did. -/
def numberDivisionUptoRow : OpenClaim := { program := "ytbjgpbdkofadiaagreatdoor", sum := "22f33cb0d7cfdc6144bcd0bad2e41b2684bec20796dc0d2db9b2023bb897abd8", func := "mjolner/mjolnerlaw01.NumberDivision", spec := "numberDivision", inPlace := ["internal/abi.NoEscape", "internal/bytealg.MakeNoZero"], unfollowed := true, recurses := true, named := ["internal/strconv.uint64pow10", "math/bits.deBruijn32tab", "math/bits.deBruijn64tab", "strconv.ErrSyntax", "strconv.ErrRange", "mjolner/number.digit"], apart := false, laid := [("math/bits.deBruijn32tab", laid_math_bits_deBruijn32tab), ("math/bits.deBruijn64tab", laid_math_bits_deBruijn64tab), ("internal/strconv.uint64pow10", laid_internal_strconv_uint64pow10), ("strconv.ErrRange", laid_strconv_ErrRange), ("strconv.ErrSyntax", laid_strconv_ErrSyntax), ("mjolner/number.digit", laid_mjolner_number_digit)], narrowed := true }
def NumberDivisionUptoSaid : Prop := numberDivisionUptoRow.holds Tryz.pinned (OpenSpec.upto numberDivisionSpec)

/-- 'mjolnerlaw01.NumberMachine', WHERE WHAT IT READS IS OF BULK AT MOST 1048576: true; the input reads as it did. -/
def numberMachineUptoRow : OpenClaim := { program := "ytbjgpbdkofadiaagreatdoor", sum := "22f33cb0d7cfdc6144bcd0bad2e41b2684bec20796dc0d2db9b2023bb897abd8", func := "mjolner/mjolnerlaw01.NumberMachine", spec := "numberMachine", inPlace := ["internal/abi.NoEscape", "internal/bytealg.MakeNoZero"], unfollowed := true, recurses := true, named := ["internal/strconv.uint64pow10", "math/bits.deBruijn32tab", "math/bits.deBruijn64tab", "strconv.ErrSyntax", "strconv.ErrRange", "mjolner/number.digit"], apart := false, laid := [("math/bits.deBruijn32tab", laid_math_bits_deBruijn32tab), ("math/bits.deBruijn64tab", laid_math_bits_deBruijn64tab), ("internal/strconv.uint64pow10", laid_internal_strconv_uint64pow10), ("strconv.ErrRange", laid_strconv_ErrRange), ("strconv.ErrSyntax", laid_strconv_ErrSyntax), ("mjolner/number.digit", laid_mjolner_number_digit)], narrowed := true }
def NumberMachineUptoSaid : Prop := numberMachineUptoRow.holds Tryz.pinned (OpenSpec.upto numberMachineSpec)

/-- 'mjolnerlaw01.NumberTexts', WHERE WHAT IT READS IS OF BULK AT MOST 1048576: true; the input reads as it did. -/
def numberTextsUptoRow : OpenClaim := { program := "ytbjgpbdkofadiaagreatdoor", sum := "22f33cb0d7cfdc6144bcd0bad2e41b2684bec20796dc0d2db9b2023bb897abd8", func := "mjolner/mjolnerlaw01.NumberTexts", spec := "numberTexts", inPlace := ["internal/abi.NoEscape", "internal/bytealg.MakeNoZero"], unfollowed := true, recurses := true, named := ["internal/strconv.uint64pow10", "math/bits.deBruijn32tab", "math/bits.deBruijn64tab", "strconv.ErrSyntax", "strconv.ErrRange", "mjolner/number.digit"], apart := false, laid := [("math/bits.deBruijn32tab", laid_math_bits_deBruijn32tab), ("math/bits.deBruijn64tab", laid_math_bits_deBruijn64tab), ("internal/strconv.uint64pow10", laid_internal_strconv_uint64pow10), ("strconv.ErrRange", laid_strconv_ErrRange), ("strconv.ErrSyntax", laid_strconv_ErrSyntax), ("mjolner/number.digit", laid_mjolner_number_digit)], narrowed := true }
def NumberTextsUptoSaid : Prop := numberTextsUptoRow.holds Tryz.pinned (OpenSpec.upto numberTextsSpec)

end Rows
end Go.Proofs.YtbjgpbdkofadiaaGreatDoor
