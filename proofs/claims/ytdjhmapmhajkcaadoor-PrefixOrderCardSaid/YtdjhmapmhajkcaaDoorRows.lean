/-
  NARROWER THAN 'FOR EVERY INPUT', by the rows' own cells (each row's printed sentence says how): PrefixApart: laid · PrefixBack: laid · PrefixChecks: laid · PrefixHalves: laid · PrefixHas: laid · PrefixKin: laid · PrefixMeets: laid · PrefixOrder: laid · PrefixParts: laid · PrefixReads: laid · PrefixSplits: laid.
  DERIVED. THE GIVEN ROWS OF THIS SEAT. 11 by the template 'for every input the law returns true; each argument reads behind the call as it read before'; 0 by the template 'total and deterministic' (their statements: YtdjhmapmhajkcaaDoorTotals.lean).
  GIVEN WITH THE SEED: the statements are not yours to turn. If you find one false, say at which input.
  Laid BY PROGRAM, IN A SANDBOX (cutbox-rows.mjs): the forced cells as the released guide's own fill.sh prints them over the translation b96e436dcc220012… (all of the seat's roots in one cut). By AI agents, Wed Nov 11 2026. No macro, syntax, notation, axiom, sorry.
-/
import Derived.Test.YtdjhmapmhajkcaaDoorChecked
import GoSem.Claim
import GoSem.ClaimJoined
import GoSem.ClaimMapViews
import Derived.JoinedTies
import Derived.KernelRfl
namespace Go.Proofs.YtdjhmapmhajkcaaDoor
/- THE CELL 'sum', in the pinned program and in every row, IS THE sha256 OF THE DUMP (.gsa) THAT YtdjhmapmhajkcaaDoorProg.lean LOADS. Nothing in Lean hashes anything: it is a label: what it is worth is what the hold of that sum in a sandbox is worth. -/
noncomputable def Tryd.pinned : Pinned := { name := "ytdjhmapmhajkcaadoor", sum := "b96e436dcc22001290f8ccc99da1d2714c35400f67093f000db1975e805b4fa4", checked := Tryd.checked }
namespace Rows
def none {H : Type} : Left H := { results := [], args := [] }

/- WHAT THE LISTED PACKAGE-LEVEL VARIABLES READ AS WHEN THE CALL BEGINS. Each datum BY PROGRAM (the guide's laid-datum.mjs) off the statement by which the dump's own 'gosem.cut.vars' lays the variable. In a bare row this is a premise. The card (YtdjhmapmhajkcaaDoorCards.lean) ties it to the program's text. -/
def laid_math_bits_deBruijn32tab {H : Type} : DataW H := .agg [.lit (.int .u8 0), .lit (.int .u8 1), .lit (.int .u8 28), .lit (.int .u8 2), .lit (.int .u8 29), .lit (.int .u8 14), .lit (.int .u8 24), .lit (.int .u8 3), .lit (.int .u8 30), .lit (.int .u8 22), .lit (.int .u8 20), .lit (.int .u8 15), .lit (.int .u8 25), .lit (.int .u8 17), .lit (.int .u8 4), .lit (.int .u8 8), .lit (.int .u8 31), .lit (.int .u8 27), .lit (.int .u8 13), .lit (.int .u8 23), .lit (.int .u8 21), .lit (.int .u8 19), .lit (.int .u8 16), .lit (.int .u8 7), .lit (.int .u8 26), .lit (.int .u8 12), .lit (.int .u8 18), .lit (.int .u8 6), .lit (.int .u8 11), .lit (.int .u8 5), .lit (.int .u8 10), .lit (.int .u8 9)]
def laid_math_bits_deBruijn64tab {H : Type} : DataW H := .agg [.lit (.int .u8 0), .lit (.int .u8 1), .lit (.int .u8 56), .lit (.int .u8 2), .lit (.int .u8 57), .lit (.int .u8 49), .lit (.int .u8 28), .lit (.int .u8 3), .lit (.int .u8 61), .lit (.int .u8 58), .lit (.int .u8 42), .lit (.int .u8 50), .lit (.int .u8 38), .lit (.int .u8 29), .lit (.int .u8 17), .lit (.int .u8 4), .lit (.int .u8 62), .lit (.int .u8 47), .lit (.int .u8 59), .lit (.int .u8 36), .lit (.int .u8 45), .lit (.int .u8 43), .lit (.int .u8 51), .lit (.int .u8 22), .lit (.int .u8 53), .lit (.int .u8 39), .lit (.int .u8 33), .lit (.int .u8 30), .lit (.int .u8 24), .lit (.int .u8 18), .lit (.int .u8 12), .lit (.int .u8 5), .lit (.int .u8 63), .lit (.int .u8 55), .lit (.int .u8 48), .lit (.int .u8 27), .lit (.int .u8 60), .lit (.int .u8 41), .lit (.int .u8 37), .lit (.int .u8 16), .lit (.int .u8 46), .lit (.int .u8 35), .lit (.int .u8 44), .lit (.int .u8 21), .lit (.int .u8 52), .lit (.int .u8 32), .lit (.int .u8 23), .lit (.int .u8 11), .lit (.int .u8 54), .lit (.int .u8 26), .lit (.int .u8 40), .lit (.int .u8 15), .lit (.int .u8 34), .lit (.int .u8 20), .lit (.int .u8 31), .lit (.int .u8 10), .lit (.int .u8 25), .lit (.int .u8 14), .lit (.int .u8 19), .lit (.int .u8 9), .lit (.int .u8 13), .lit (.int .u8 8), .lit (.int .u8 7), .lit (.int .u8 6)]
def laid_internal_strconv_uint64pow10 {H : Type} : DataW H := .agg [.lit (.int .u64 1), .lit (.int .u64 10), .lit (.int .u64 100), .lit (.int .u64 1000), .lit (.int .u64 10000), .lit (.int .u64 100000), .lit (.int .u64 1000000), .lit (.int .u64 10000000), .lit (.int .u64 100000000), .lit (.int .u64 1000000000), .lit (.int .u64 10000000000), .lit (.int .u64 100000000000), .lit (.int .u64 1000000000000), .lit (.int .u64 10000000000000), .lit (.int .u64 100000000000000), .lit (.int .u64 1000000000000000), .lit (.int .u64 10000000000000000), .lit (.int .u64 100000000000000000), .lit (.int .u64 1000000000000000000), .lit (.int .u64 10000000000000000000)]

/-- 'turnpikelaw3.PrefixApart': WHATEVER THE INPUT: true; the input reads as it did. -/
def prefixApartSpec : ChangeSpec := { name := "prefixApart", fn := fun _ => fun
  | [d1, d2, d3, d4, d5, d6] => { results := [.lit (.bool true)], args := [d1, d2, d3, d4, d5, d6] }
  | _ => none }
def prefixApartRow : OpenClaim := { program := "ytdjhmapmhajkcaadoor", sum := "b96e436dcc22001290f8ccc99da1d2714c35400f67093f000db1975e805b4fa4", func := "turnpike/turnpikelaw3.PrefixApart", spec := "prefixApart", inPlace := ["internal/bytealg.IndexByteString", "internal/bytealg.IndexString", "internal/abi.NoEscape", "internal/bytealg.MakeNoZero"], named := ["internal/bytealg.MaxLen", "internal/strconv.uint64pow10", "math/bits.deBruijn32tab", "math/bits.deBruijn64tab"], apart := false, laid := [("math/bits.deBruijn32tab", laid_math_bits_deBruijn32tab), ("math/bits.deBruijn64tab", laid_math_bits_deBruijn64tab), ("internal/strconv.uint64pow10", laid_internal_strconv_uint64pow10)] }
def PrefixApartSaid : Prop := prefixApartRow.holds Tryd.pinned (OpenSpec.ofChange prefixApartSpec)

/-- ITS FALSE NEIGHBOUR: 'it returns false'. Refute it at one input. -/
def prefixApartWrong : ChangeSpec := { name := "prefixApart", fn := fun _ => fun
  | [d1, d2, d3, d4, d5, d6] => { results := [.lit (.bool false)], args := [d1, d2, d3, d4, d5, d6] }
  | _ => none }
def PrefixApartWrongFalsely : Prop := prefixApartRow.holds Tryd.pinned (OpenSpec.ofChange prefixApartWrong)

/-- 'turnpikelaw3.PrefixBack': WHATEVER THE INPUT: true; the input reads as it did. -/
def prefixBackSpec : ChangeSpec := { name := "prefixBack", fn := fun _ => fun
  | [d1, d2, d3] => { results := [.lit (.bool true)], args := [d1, d2, d3] }
  | _ => none }
def prefixBackRow : OpenClaim := { program := "ytdjhmapmhajkcaadoor", sum := "b96e436dcc22001290f8ccc99da1d2714c35400f67093f000db1975e805b4fa4", func := "turnpike/turnpikelaw3.PrefixBack", spec := "prefixBack", inPlace := ["internal/bytealg.IndexByteString", "internal/bytealg.IndexString", "internal/abi.NoEscape", "internal/bytealg.MakeNoZero"], named := ["internal/bytealg.MaxLen", "internal/strconv.uint64pow10", "math/bits.deBruijn32tab", "math/bits.deBruijn64tab"], apart := false, laid := [("math/bits.deBruijn32tab", laid_math_bits_deBruijn32tab), ("math/bits.deBruijn64tab", laid_math_bits_deBruijn64tab), ("internal/strconv.uint64pow10", laid_internal_strconv_uint64pow10)] }
def PrefixBackSaid : Prop := prefixBackRow.holds Tryd.pinned (OpenSpec.ofChange prefixBackSpec)

/-- ITS FALSE NEIGHBOUR: 'it returns false'. Refute it at one input. -/
def prefixBackWrong : ChangeSpec := { name := "prefixBack", fn := fun _ => fun
  | [d1, d2, d3] => { results := [.lit (.bool false)], args := [d1, d2, d3] }
  | _ => none }
def PrefixBackWrongFalsely : Prop := prefixBackRow.holds Tryd.pinned (OpenSpec.ofChange prefixBackWrong)

/-- 'turnpikelaw3.PrefixChecks': WHATEVER THE INPUT: true; the input reads as it did. -/
def prefixChecksSpec : ChangeSpec := { name := "prefixChecks", fn := fun _ => fun
  | [d1, d2, d3, d4] => { results := [.lit (.bool true)], args := [d1, d2, d3, d4] }
  | _ => none }
def prefixChecksRow : OpenClaim := { program := "ytdjhmapmhajkcaadoor", sum := "b96e436dcc22001290f8ccc99da1d2714c35400f67093f000db1975e805b4fa4", func := "turnpike/turnpikelaw3.PrefixChecks", spec := "prefixChecks", inPlace := ["internal/bytealg.IndexByteString", "internal/bytealg.IndexString", "internal/abi.NoEscape", "internal/bytealg.MakeNoZero"], named := ["internal/bytealg.MaxLen", "internal/strconv.uint64pow10", "math/bits.deBruijn32tab", "math/bits.deBruijn64tab"], apart := false, laid := [("math/bits.deBruijn32tab", laid_math_bits_deBruijn32tab), ("math/bits.deBruijn64tab", laid_math_bits_deBruijn64tab), ("internal/strconv.uint64pow10", laid_internal_strconv_uint64pow10)] }
def PrefixChecksSaid : Prop := prefixChecksRow.holds Tryd.pinned (OpenSpec.ofChange prefixChecksSpec)

/-- ITS FALSE NEIGHBOUR: 'it returns false'. Refute it at one input. -/
def prefixChecksWrong : ChangeSpec := { name := "prefixChecks", fn := fun _ => fun
  | [d1, d2, d3, d4] => { results := [.lit (.bool false)], args := [d1, d2, d3, d4] }
  | _ => none }
def PrefixChecksWrongFalsely : Prop := prefixChecksRow.holds Tryd.pinned (OpenSpec.ofChange prefixChecksWrong)

/-- 'turnpikelaw3.PrefixHalves': WHATEVER THE INPUT: true; the input reads as it did. -/
def prefixHalvesSpec : ChangeSpec := { name := "prefixHalves", fn := fun _ => fun
  | [d1, d2, d3] => { results := [.lit (.bool true)], args := [d1, d2, d3] }
  | _ => none }
def prefixHalvesRow : OpenClaim := { program := "ytdjhmapmhajkcaadoor", sum := "b96e436dcc22001290f8ccc99da1d2714c35400f67093f000db1975e805b4fa4", func := "turnpike/turnpikelaw3.PrefixHalves", spec := "prefixHalves", inPlace := ["internal/bytealg.IndexByteString", "internal/bytealg.IndexString", "internal/abi.NoEscape", "internal/bytealg.MakeNoZero"], named := ["internal/bytealg.MaxLen", "internal/strconv.uint64pow10", "math/bits.deBruijn32tab", "math/bits.deBruijn64tab"], apart := false, laid := [("math/bits.deBruijn32tab", laid_math_bits_deBruijn32tab), ("math/bits.deBruijn64tab", laid_math_bits_deBruijn64tab), ("internal/strconv.uint64pow10", laid_internal_strconv_uint64pow10)] }
def PrefixHalvesSaid : Prop := prefixHalvesRow.holds Tryd.pinned (OpenSpec.ofChange prefixHalvesSpec)

/-- ITS FALSE NEIGHBOUR: 'it returns false'. Refute it at one input. -/
def prefixHalvesWrong : ChangeSpec := { name := "prefixHalves", fn := fun _ => fun
  | [d1, d2, d3] => { results := [.lit (.bool false)], args := [d1, d2, d3] }
  | _ => none }
def PrefixHalvesWrongFalsely : Prop := prefixHalvesRow.holds Tryd.pinned (OpenSpec.ofChange prefixHalvesWrong)

/-- 'turnpikelaw3.PrefixHas': WHATEVER THE INPUT: true; the input reads as it did. -/
def prefixHasSpec : ChangeSpec := { name := "prefixHas", fn := fun _ => fun
  | [d1, d2, d3, d4, d5, d6] => { results := [.lit (.bool true)], args := [d1, d2, d3, d4, d5, d6] }
  | _ => none }
def prefixHasRow : OpenClaim := { program := "ytdjhmapmhajkcaadoor", sum := "b96e436dcc22001290f8ccc99da1d2714c35400f67093f000db1975e805b4fa4", func := "turnpike/turnpikelaw3.PrefixHas", spec := "prefixHas", inPlace := ["internal/bytealg.IndexByteString", "internal/bytealg.IndexString", "internal/abi.NoEscape", "internal/bytealg.MakeNoZero"], named := ["internal/bytealg.MaxLen", "internal/strconv.uint64pow10", "math/bits.deBruijn32tab", "math/bits.deBruijn64tab"], apart := false, laid := [("math/bits.deBruijn32tab", laid_math_bits_deBruijn32tab), ("math/bits.deBruijn64tab", laid_math_bits_deBruijn64tab), ("internal/strconv.uint64pow10", laid_internal_strconv_uint64pow10)] }
def PrefixHasSaid : Prop := prefixHasRow.holds Tryd.pinned (OpenSpec.ofChange prefixHasSpec)

/-- ITS FALSE NEIGHBOUR: 'it returns false'. Refute it at one input. -/
def prefixHasWrong : ChangeSpec := { name := "prefixHas", fn := fun _ => fun
  | [d1, d2, d3, d4, d5, d6] => { results := [.lit (.bool false)], args := [d1, d2, d3, d4, d5, d6] }
  | _ => none }
def PrefixHasWrongFalsely : Prop := prefixHasRow.holds Tryd.pinned (OpenSpec.ofChange prefixHasWrong)

/-- 'turnpikelaw3.PrefixKin': WHATEVER THE INPUT: true; the input reads as it did. -/
def prefixKinSpec : ChangeSpec := { name := "prefixKin", fn := fun _ => fun
  | [d1, d2, d3] => { results := [.lit (.bool true)], args := [d1, d2, d3] }
  | _ => none }
def prefixKinRow : OpenClaim := { program := "ytdjhmapmhajkcaadoor", sum := "b96e436dcc22001290f8ccc99da1d2714c35400f67093f000db1975e805b4fa4", func := "turnpike/turnpikelaw3.PrefixKin", spec := "prefixKin", inPlace := ["internal/bytealg.IndexByteString", "internal/bytealg.IndexString", "internal/abi.NoEscape", "internal/bytealg.MakeNoZero"], named := ["internal/bytealg.MaxLen", "internal/strconv.uint64pow10", "math/bits.deBruijn32tab", "math/bits.deBruijn64tab"], apart := false, laid := [("math/bits.deBruijn32tab", laid_math_bits_deBruijn32tab), ("math/bits.deBruijn64tab", laid_math_bits_deBruijn64tab), ("internal/strconv.uint64pow10", laid_internal_strconv_uint64pow10)] }
def PrefixKinSaid : Prop := prefixKinRow.holds Tryd.pinned (OpenSpec.ofChange prefixKinSpec)

/-- ITS FALSE NEIGHBOUR: 'it returns false'. Refute it at one input. -/
def prefixKinWrong : ChangeSpec := { name := "prefixKin", fn := fun _ => fun
  | [d1, d2, d3] => { results := [.lit (.bool false)], args := [d1, d2, d3] }
  | _ => none }
def PrefixKinWrongFalsely : Prop := prefixKinRow.holds Tryd.pinned (OpenSpec.ofChange prefixKinWrong)

/-- 'turnpikelaw3.PrefixMeets': WHATEVER THE INPUT: true; the input reads as it did. -/
def prefixMeetsSpec : ChangeSpec := { name := "prefixMeets", fn := fun _ => fun
  | [d1, d2, d3, d4, d5] => { results := [.lit (.bool true)], args := [d1, d2, d3, d4, d5] }
  | _ => none }
def prefixMeetsRow : OpenClaim := { program := "ytdjhmapmhajkcaadoor", sum := "b96e436dcc22001290f8ccc99da1d2714c35400f67093f000db1975e805b4fa4", func := "turnpike/turnpikelaw3.PrefixMeets", spec := "prefixMeets", inPlace := ["internal/bytealg.IndexByteString", "internal/bytealg.IndexString", "internal/abi.NoEscape", "internal/bytealg.MakeNoZero"], named := ["internal/bytealg.MaxLen", "internal/strconv.uint64pow10", "math/bits.deBruijn32tab", "math/bits.deBruijn64tab"], apart := false, laid := [("math/bits.deBruijn32tab", laid_math_bits_deBruijn32tab), ("math/bits.deBruijn64tab", laid_math_bits_deBruijn64tab), ("internal/strconv.uint64pow10", laid_internal_strconv_uint64pow10)] }
def PrefixMeetsSaid : Prop := prefixMeetsRow.holds Tryd.pinned (OpenSpec.ofChange prefixMeetsSpec)

/-- ITS FALSE NEIGHBOUR: 'it returns false'. Refute it at one input. -/
def prefixMeetsWrong : ChangeSpec := { name := "prefixMeets", fn := fun _ => fun
  | [d1, d2, d3, d4, d5] => { results := [.lit (.bool false)], args := [d1, d2, d3, d4, d5] }
  | _ => none }
def PrefixMeetsWrongFalsely : Prop := prefixMeetsRow.holds Tryd.pinned (OpenSpec.ofChange prefixMeetsWrong)

/-- 'turnpikelaw3.PrefixOrder': WHATEVER THE INPUT: true; the input reads as it did. -/
def prefixOrderSpec : ChangeSpec := { name := "prefixOrder", fn := fun _ => fun
  | [d1, d2, d3, d4, d5, d6, d7] => { results := [.lit (.bool true)], args := [d1, d2, d3, d4, d5, d6, d7] }
  | _ => none }
def prefixOrderRow : OpenClaim := { program := "ytdjhmapmhajkcaadoor", sum := "b96e436dcc22001290f8ccc99da1d2714c35400f67093f000db1975e805b4fa4", func := "turnpike/turnpikelaw3.PrefixOrder", spec := "prefixOrder", inPlace := ["internal/bytealg.IndexByteString", "internal/bytealg.IndexString", "internal/abi.NoEscape", "internal/bytealg.MakeNoZero"], named := ["internal/bytealg.MaxLen", "internal/strconv.uint64pow10", "math/bits.deBruijn32tab", "math/bits.deBruijn64tab"], apart := false, laid := [("math/bits.deBruijn32tab", laid_math_bits_deBruijn32tab), ("math/bits.deBruijn64tab", laid_math_bits_deBruijn64tab), ("internal/strconv.uint64pow10", laid_internal_strconv_uint64pow10)] }
def PrefixOrderSaid : Prop := prefixOrderRow.holds Tryd.pinned (OpenSpec.ofChange prefixOrderSpec)

/-- ITS FALSE NEIGHBOUR: 'it returns false'. Refute it at one input. -/
def prefixOrderWrong : ChangeSpec := { name := "prefixOrder", fn := fun _ => fun
  | [d1, d2, d3, d4, d5, d6, d7] => { results := [.lit (.bool false)], args := [d1, d2, d3, d4, d5, d6, d7] }
  | _ => none }
def PrefixOrderWrongFalsely : Prop := prefixOrderRow.holds Tryd.pinned (OpenSpec.ofChange prefixOrderWrong)

/-- 'turnpikelaw3.PrefixParts': WHATEVER THE INPUT: true; the input reads as it did. -/
def prefixPartsSpec : ChangeSpec := { name := "prefixParts", fn := fun _ => fun
  | [d1, d2, d3, d4] => { results := [.lit (.bool true)], args := [d1, d2, d3, d4] }
  | _ => none }
def prefixPartsRow : OpenClaim := { program := "ytdjhmapmhajkcaadoor", sum := "b96e436dcc22001290f8ccc99da1d2714c35400f67093f000db1975e805b4fa4", func := "turnpike/turnpikelaw3.PrefixParts", spec := "prefixParts", inPlace := ["internal/bytealg.IndexByteString", "internal/bytealg.IndexString", "internal/abi.NoEscape", "internal/bytealg.MakeNoZero", "math/bits.Add64"], unfollowed := true, recurses := true, named := ["internal/bytealg.MaxLen", "internal/strconv.uint64pow10", "math/bits.deBruijn32tab", "math/bits.deBruijn64tab"], apart := false, laid := [("math/bits.deBruijn32tab", laid_math_bits_deBruijn32tab), ("math/bits.deBruijn64tab", laid_math_bits_deBruijn64tab), ("internal/strconv.uint64pow10", laid_internal_strconv_uint64pow10)] }
def PrefixPartsSaid : Prop := prefixPartsRow.holds Tryd.pinned (OpenSpec.ofChange prefixPartsSpec)

/-- ITS FALSE NEIGHBOUR: 'it returns false'. Refute it at one input. -/
def prefixPartsWrong : ChangeSpec := { name := "prefixParts", fn := fun _ => fun
  | [d1, d2, d3, d4] => { results := [.lit (.bool false)], args := [d1, d2, d3, d4] }
  | _ => none }
def PrefixPartsWrongFalsely : Prop := prefixPartsRow.holds Tryd.pinned (OpenSpec.ofChange prefixPartsWrong)

/-- 'turnpikelaw3.PrefixReads': WHATEVER THE INPUT: true; the input reads as it did. -/
def prefixReadsSpec : ChangeSpec := { name := "prefixReads", fn := fun _ => fun
  | [d1, d2, d3] => { results := [.lit (.bool true)], args := [d1, d2, d3] }
  | _ => none }
def prefixReadsRow : OpenClaim := { program := "ytdjhmapmhajkcaadoor", sum := "b96e436dcc22001290f8ccc99da1d2714c35400f67093f000db1975e805b4fa4", func := "turnpike/turnpikelaw3.PrefixReads", spec := "prefixReads", inPlace := ["internal/bytealg.IndexByteString", "internal/bytealg.IndexString", "internal/abi.NoEscape", "internal/bytealg.MakeNoZero"], recurses := true, named := ["internal/bytealg.MaxLen", "internal/strconv.uint64pow10", "math/bits.deBruijn32tab", "math/bits.deBruijn64tab"], apart := false, laid := [("math/bits.deBruijn32tab", laid_math_bits_deBruijn32tab), ("math/bits.deBruijn64tab", laid_math_bits_deBruijn64tab), ("internal/strconv.uint64pow10", laid_internal_strconv_uint64pow10)] }
def PrefixReadsSaid : Prop := prefixReadsRow.holds Tryd.pinned (OpenSpec.ofChange prefixReadsSpec)

/-- ITS FALSE NEIGHBOUR: 'it returns false'. Refute it at one input. -/
def prefixReadsWrong : ChangeSpec := { name := "prefixReads", fn := fun _ => fun
  | [d1, d2, d3] => { results := [.lit (.bool false)], args := [d1, d2, d3] }
  | _ => none }
def PrefixReadsWrongFalsely : Prop := prefixReadsRow.holds Tryd.pinned (OpenSpec.ofChange prefixReadsWrong)

/-- 'turnpikelaw3.PrefixSplits': WHATEVER THE INPUT: true; the input reads as it did. -/
def prefixSplitsSpec : ChangeSpec := { name := "prefixSplits", fn := fun _ => fun
  | [d1, d2, d3, d4] => { results := [.lit (.bool true)], args := [d1, d2, d3, d4] }
  | _ => none }
def prefixSplitsRow : OpenClaim := { program := "ytdjhmapmhajkcaadoor", sum := "b96e436dcc22001290f8ccc99da1d2714c35400f67093f000db1975e805b4fa4", func := "turnpike/turnpikelaw3.PrefixSplits", spec := "prefixSplits", inPlace := ["internal/bytealg.IndexByteString", "internal/bytealg.IndexString", "internal/abi.NoEscape", "internal/bytealg.MakeNoZero", "math/bits.Add64"], unfollowed := true, recurses := true, named := ["internal/bytealg.MaxLen", "internal/strconv.uint64pow10", "math/bits.deBruijn32tab", "math/bits.deBruijn64tab"], apart := false, laid := [("math/bits.deBruijn32tab", laid_math_bits_deBruijn32tab), ("math/bits.deBruijn64tab", laid_math_bits_deBruijn64tab), ("internal/strconv.uint64pow10", laid_internal_strconv_uint64pow10)] }
def PrefixSplitsSaid : Prop := prefixSplitsRow.holds Tryd.pinned (OpenSpec.ofChange prefixSplitsSpec)

/-- ITS FALSE NEIGHBOUR: 'it returns false'. Refute it at one input. -/
def prefixSplitsWrong : ChangeSpec := { name := "prefixSplits", fn := fun _ => fun
  | [d1, d2, d3, d4] => { results := [.lit (.bool false)], args := [d1, d2, d3, d4] }
  | _ => none }
def PrefixSplitsWrongFalsely : Prop := prefixSplitsRow.holds Tryd.pinned (OpenSpec.ofChange prefixSplitsWrong)

/- THE SECOND FORM. 'bulk': how many values and letters a reading holds, each counted each time it is reached (what is shared counts as often as it is met; a slice's spare places count too). A statement '..UptoSaid' is the law's where the arguments, and the package variables that the reading takes, are together of bulk at most 1048576: NARROWER than '..Said'. Prove '..Said' where nothing that the law and all that it calls make is longer than what came in: it says more and counts as full. Else prove '..UptoSaid'. A law counts once. -/
mutual
def uptoBulk {H : Type} : DataW H → Nat
  | .lit (.string bytes) => bytes.length + 1
  | .lit _ => 1
  | .nil => 1
  | .ptr d => uptoBulk d + 1
  | .slice elems spare => uptoBulkAll elems + uptoBulkAll spare + 1
  | .agg parts => uptoBulkAll parts + 1
  | .iface _ d => uptoBulk d + 1
  | .map entries => uptoBulkEntries entries + 1
  | .held _ => 1
def uptoBulkAll {H : Type} : List (DataW H) → Nat
  | [] => 0
  | d :: r => uptoBulk d + uptoBulkAll r
def uptoBulkEntries {H : Type} : List (Lit × DataW H) → Nat
  | [] => 0
  | x :: r => uptoBulkEntry x + uptoBulkEntries r
def uptoBulkEntry {H : Type} : Lit × DataW H → Nat
  | (.string bytes, d) => bytes.length + uptoBulk d + 1
  | (_, d) => uptoBulk d + 1
 end
def uptoSmall : (H : Type) → List (DataW H) → Bool := fun _ ds => decide (uptoBulkAll ds ≤ 1048576)
def OpenSpec.upto (s : _root_.Go.ChangeSpec) : _root_.Go.OpenSpec := { _root_.Go.OpenSpec.ofChange s with cond := some uptoSmall }

/-- 'turnpikelaw3.PrefixApart', WHERE WHAT IT READS IS OF BULK AT MOST 1048576: true; the input reads as it did. -/
def prefixApartUptoRow : OpenClaim := { program := "ytdjhmapmhajkcaadoor", sum := "b96e436dcc22001290f8ccc99da1d2714c35400f67093f000db1975e805b4fa4", func := "turnpike/turnpikelaw3.PrefixApart", spec := "prefixApart", inPlace := ["internal/bytealg.IndexByteString", "internal/bytealg.IndexString", "internal/abi.NoEscape", "internal/bytealg.MakeNoZero"], named := ["internal/bytealg.MaxLen", "internal/strconv.uint64pow10", "math/bits.deBruijn32tab", "math/bits.deBruijn64tab"], apart := false, laid := [("math/bits.deBruijn32tab", laid_math_bits_deBruijn32tab), ("math/bits.deBruijn64tab", laid_math_bits_deBruijn64tab), ("internal/strconv.uint64pow10", laid_internal_strconv_uint64pow10)], narrowed := true }
def PrefixApartUptoSaid : Prop := prefixApartUptoRow.holds Tryd.pinned (OpenSpec.upto prefixApartSpec)

/-- 'turnpikelaw3.PrefixBack', WHERE WHAT IT READS IS OF BULK AT MOST 1048576: true; the input reads as it did. -/
def prefixBackUptoRow : OpenClaim := { program := "ytdjhmapmhajkcaadoor", sum := "b96e436dcc22001290f8ccc99da1d2714c35400f67093f000db1975e805b4fa4", func := "turnpike/turnpikelaw3.PrefixBack", spec := "prefixBack", inPlace := ["internal/bytealg.IndexByteString", "internal/bytealg.IndexString", "internal/abi.NoEscape", "internal/bytealg.MakeNoZero"], named := ["internal/bytealg.MaxLen", "internal/strconv.uint64pow10", "math/bits.deBruijn32tab", "math/bits.deBruijn64tab"], apart := false, laid := [("math/bits.deBruijn32tab", laid_math_bits_deBruijn32tab), ("math/bits.deBruijn64tab", laid_math_bits_deBruijn64tab), ("internal/strconv.uint64pow10", laid_internal_strconv_uint64pow10)], narrowed := true }
def PrefixBackUptoSaid : Prop := prefixBackUptoRow.holds Tryd.pinned (OpenSpec.upto prefixBackSpec)

/-- 'turnpikelaw3.PrefixChecks', WHERE WHAT IT READS IS OF BULK AT MOST 1048576: true; the input reads as it did. -/
def prefixChecksUptoRow : OpenClaim := { program := "ytdjhmapmhajkcaadoor", sum := "b96e436dcc22001290f8ccc99da1d2714c35400f67093f000db1975e805b4fa4", func := "turnpike/turnpikelaw3.PrefixChecks", spec := "prefixChecks", inPlace := ["internal/bytealg.IndexByteString", "internal/bytealg.IndexString", "internal/abi.NoEscape", "internal/bytealg.MakeNoZero"], named := ["internal/bytealg.MaxLen", "internal/strconv.uint64pow10", "math/bits.deBruijn32tab", "math/bits.deBruijn64tab"], apart := false, laid := [("math/bits.deBruijn32tab", laid_math_bits_deBruijn32tab), ("math/bits.deBruijn64tab", laid_math_bits_deBruijn64tab), ("internal/strconv.uint64pow10", laid_internal_strconv_uint64pow10)], narrowed := true }
def PrefixChecksUptoSaid : Prop := prefixChecksUptoRow.holds Tryd.pinned (OpenSpec.upto prefixChecksSpec)

/-- 'turnpikelaw3.PrefixHalves', WHERE WHAT IT READS IS OF BULK AT MOST 1048576: true; the input reads as it did. -/
def prefixHalvesUptoRow : OpenClaim := { program := "ytdjhmapmhajkcaadoor", sum := "b96e436dcc22001290f8ccc99da1d2714c35400f67093f000db1975e805b4fa4", func := "turnpike/turnpikelaw3.PrefixHalves", spec := "prefixHalves", inPlace := ["internal/bytealg.IndexByteString", "internal/bytealg.IndexString", "internal/abi.NoEscape", "internal/bytealg.MakeNoZero"], named := ["internal/bytealg.MaxLen", "internal/strconv.uint64pow10", "math/bits.deBruijn32tab", "math/bits.deBruijn64tab"], apart := false, laid := [("math/bits.deBruijn32tab", laid_math_bits_deBruijn32tab), ("math/bits.deBruijn64tab", laid_math_bits_deBruijn64tab), ("internal/strconv.uint64pow10", laid_internal_strconv_uint64pow10)], narrowed := true }
def PrefixHalvesUptoSaid : Prop := prefixHalvesUptoRow.holds Tryd.pinned (OpenSpec.upto prefixHalvesSpec)

/-- 'turnpikelaw3.PrefixHas', WHERE WHAT IT READS IS OF BULK AT MOST 1048576: true; the input reads as it did. -/
def prefixHasUptoRow : OpenClaim := { program := "ytdjhmapmhajkcaadoor", sum := "b96e436dcc22001290f8ccc99da1d2714c35400f67093f000db1975e805b4fa4", func := "turnpike/turnpikelaw3.PrefixHas", spec := "prefixHas", inPlace := ["internal/bytealg.IndexByteString", "internal/bytealg.IndexString", "internal/abi.NoEscape", "internal/bytealg.MakeNoZero"], named := ["internal/bytealg.MaxLen", "internal/strconv.uint64pow10", "math/bits.deBruijn32tab", "math/bits.deBruijn64tab"], apart := false, laid := [("math/bits.deBruijn32tab", laid_math_bits_deBruijn32tab), ("math/bits.deBruijn64tab", laid_math_bits_deBruijn64tab), ("internal/strconv.uint64pow10", laid_internal_strconv_uint64pow10)], narrowed := true }
def PrefixHasUptoSaid : Prop := prefixHasUptoRow.holds Tryd.pinned (OpenSpec.upto prefixHasSpec)

/-- 'turnpikelaw3.PrefixKin', WHERE WHAT IT READS IS OF BULK AT MOST 1048576: true; the input reads as it did. -/
def prefixKinUptoRow : OpenClaim := { program := "ytdjhmapmhajkcaadoor", sum := "b96e436dcc22001290f8ccc99da1d2714c35400f67093f000db1975e805b4fa4", func := "turnpike/turnpikelaw3.PrefixKin", spec := "prefixKin", inPlace := ["internal/bytealg.IndexByteString", "internal/bytealg.IndexString", "internal/abi.NoEscape", "internal/bytealg.MakeNoZero"], named := ["internal/bytealg.MaxLen", "internal/strconv.uint64pow10", "math/bits.deBruijn32tab", "math/bits.deBruijn64tab"], apart := false, laid := [("math/bits.deBruijn32tab", laid_math_bits_deBruijn32tab), ("math/bits.deBruijn64tab", laid_math_bits_deBruijn64tab), ("internal/strconv.uint64pow10", laid_internal_strconv_uint64pow10)], narrowed := true }
def PrefixKinUptoSaid : Prop := prefixKinUptoRow.holds Tryd.pinned (OpenSpec.upto prefixKinSpec)

/-- 'turnpikelaw3.PrefixMeets', WHERE WHAT IT READS IS OF BULK AT MOST 1048576: true; the input reads as it did. -/
def prefixMeetsUptoRow : OpenClaim := { program := "ytdjhmapmhajkcaadoor", sum := "b96e436dcc22001290f8ccc99da1d2714c35400f67093f000db1975e805b4fa4", func := "turnpike/turnpikelaw3.PrefixMeets", spec := "prefixMeets", inPlace := ["internal/bytealg.IndexByteString", "internal/bytealg.IndexString", "internal/abi.NoEscape", "internal/bytealg.MakeNoZero"], named := ["internal/bytealg.MaxLen", "internal/strconv.uint64pow10", "math/bits.deBruijn32tab", "math/bits.deBruijn64tab"], apart := false, laid := [("math/bits.deBruijn32tab", laid_math_bits_deBruijn32tab), ("math/bits.deBruijn64tab", laid_math_bits_deBruijn64tab), ("internal/strconv.uint64pow10", laid_internal_strconv_uint64pow10)], narrowed := true }
def PrefixMeetsUptoSaid : Prop := prefixMeetsUptoRow.holds Tryd.pinned (OpenSpec.upto prefixMeetsSpec)

/-- 'turnpikelaw3.PrefixOrder', WHERE WHAT IT READS IS OF BULK AT MOST 1048576: true; the input reads as it did. -/
def prefixOrderUptoRow : OpenClaim := { program := "ytdjhmapmhajkcaadoor", sum := "b96e436dcc22001290f8ccc99da1d2714c35400f67093f000db1975e805b4fa4", func := "turnpike/turnpikelaw3.PrefixOrder", spec := "prefixOrder", inPlace := ["internal/bytealg.IndexByteString", "internal/bytealg.IndexString", "internal/abi.NoEscape", "internal/bytealg.MakeNoZero"], named := ["internal/bytealg.MaxLen", "internal/strconv.uint64pow10", "math/bits.deBruijn32tab", "math/bits.deBruijn64tab"], apart := false, laid := [("math/bits.deBruijn32tab", laid_math_bits_deBruijn32tab), ("math/bits.deBruijn64tab", laid_math_bits_deBruijn64tab), ("internal/strconv.uint64pow10", laid_internal_strconv_uint64pow10)], narrowed := true }
def PrefixOrderUptoSaid : Prop := prefixOrderUptoRow.holds Tryd.pinned (OpenSpec.upto prefixOrderSpec)

/-- 'turnpikelaw3.PrefixParts', WHERE WHAT IT READS IS OF BULK AT MOST 1048576: true; the input reads as it did. -/
def prefixPartsUptoRow : OpenClaim := { program := "ytdjhmapmhajkcaadoor", sum := "b96e436dcc22001290f8ccc99da1d2714c35400f67093f000db1975e805b4fa4", func := "turnpike/turnpikelaw3.PrefixParts", spec := "prefixParts", inPlace := ["internal/bytealg.IndexByteString", "internal/bytealg.IndexString", "internal/abi.NoEscape", "internal/bytealg.MakeNoZero", "math/bits.Add64"], unfollowed := true, recurses := true, named := ["internal/bytealg.MaxLen", "internal/strconv.uint64pow10", "math/bits.deBruijn32tab", "math/bits.deBruijn64tab"], apart := false, laid := [("math/bits.deBruijn32tab", laid_math_bits_deBruijn32tab), ("math/bits.deBruijn64tab", laid_math_bits_deBruijn64tab), ("internal/strconv.uint64pow10", laid_internal_strconv_uint64pow10)], narrowed := true }
def PrefixPartsUptoSaid : Prop := prefixPartsUptoRow.holds Tryd.pinned (OpenSpec.upto prefixPartsSpec)

/-- 'turnpikelaw3.PrefixReads', WHERE WHAT IT READS IS OF BULK AT MOST 1048576: true; the input reads as it did. -/
def prefixReadsUptoRow : OpenClaim := { program := "ytdjhmapmhajkcaadoor", sum := "b96e436dcc22001290f8ccc99da1d2714c35400f67093f000db1975e805b4fa4", func := "turnpike/turnpikelaw3.PrefixReads", spec := "prefixReads", inPlace := ["internal/bytealg.IndexByteString", "internal/bytealg.IndexString", "internal/abi.NoEscape", "internal/bytealg.MakeNoZero"], recurses := true, named := ["internal/bytealg.MaxLen", "internal/strconv.uint64pow10", "math/bits.deBruijn32tab", "math/bits.deBruijn64tab"], apart := false, laid := [("math/bits.deBruijn32tab", laid_math_bits_deBruijn32tab), ("math/bits.deBruijn64tab", laid_math_bits_deBruijn64tab), ("internal/strconv.uint64pow10", laid_internal_strconv_uint64pow10)], narrowed := true }
def PrefixReadsUptoSaid : Prop := prefixReadsUptoRow.holds Tryd.pinned (OpenSpec.upto prefixReadsSpec)

/-- 'turnpikelaw3.PrefixSplits', WHERE WHAT IT READS IS OF BULK AT MOST 1048576: true; the input reads as it did. -/
def prefixSplitsUptoRow : OpenClaim := { program := "ytdjhmapmhajkcaadoor", sum := "b96e436dcc22001290f8ccc99da1d2714c35400f67093f000db1975e805b4fa4", func := "turnpike/turnpikelaw3.PrefixSplits", spec := "prefixSplits", inPlace := ["internal/bytealg.IndexByteString", "internal/bytealg.IndexString", "internal/abi.NoEscape", "internal/bytealg.MakeNoZero", "math/bits.Add64"], unfollowed := true, recurses := true, named := ["internal/bytealg.MaxLen", "internal/strconv.uint64pow10", "math/bits.deBruijn32tab", "math/bits.deBruijn64tab"], apart := false, laid := [("math/bits.deBruijn32tab", laid_math_bits_deBruijn32tab), ("math/bits.deBruijn64tab", laid_math_bits_deBruijn64tab), ("internal/strconv.uint64pow10", laid_internal_strconv_uint64pow10)], narrowed := true }
def PrefixSplitsUptoSaid : Prop := prefixSplitsUptoRow.holds Tryd.pinned (OpenSpec.upto prefixSplitsSpec)

end Rows
end Go.Proofs.YtdjhmapmhajkcaaDoor
