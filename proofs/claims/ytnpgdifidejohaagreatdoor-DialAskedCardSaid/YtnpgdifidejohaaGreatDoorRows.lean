/-
  NARROWER THAN 'FOR EVERY INPUT', by the rows' own cells (each row's printed sentence says how): DialLetters: laid · DialSundays: laid · DialLiked: laid · DialDoubles: laid · DialKept: laid · DialFound: laid · DialAsks: laid · DialAsked: laid · DialAges: laid · DialMonths: laid · DialPaschal: laid · DialProven: laid.
  DERIVED. THE GIVEN ROWS OF THIS SEAT. 12 by the template 'for every input the law returns true; each argument reads behind the call as it read before'; 0 by the template 'total and deterministic' (their statements: YtnpgdifidejohaaGreatDoorTotals.lean).
  GIVEN WITH THE SEED: the statements are not yours to turn. If you find one false, say at which input.
  Laid BY PROGRAM, IN A SANDBOX (cutbox-rows.mjs): the forced cells as the released guide's own fill.sh prints them over the translation 66b0487b81f68888… (all of the seat's roots in one cut). By AI agents, Wed Nov 11 2026. No macro, syntax, notation, axiom, sorry.
-/
import Derived.Test.YtnpgdifidejohaaGreatDoorChecked
import GoSem.Claim
import GoSem.ClaimJoined
import GoSem.ClaimMapViews
import Derived.JoinedTies
import Derived.KernelRfl
namespace Go.Proofs.YtnpgdifidejohaaGreatDoor
/- THE CELL 'sum', in the pinned program and in every row, IS THE sha256 OF THE DUMP (.gsa) THAT YtnpgdifidejohaaGreatDoorProg.lean LOADS. Nothing in Lean hashes anything: it is a label: what it is worth is what the hold of that sum in a sandbox is worth. -/
noncomputable def Tryz.pinned : Pinned := { name := "ytnpgdifidejohaagreatdoor", sum := "66b0487b81f68888ae57cd9a93be99b9bb602744ce0df621e8e26c24a41a27ed", checked := Tryz.checked }
namespace Rows
def none {H : Type} : Left H := { results := [], args := [] }

/- WHAT THE LISTED PACKAGE-LEVEL VARIABLES READ AS WHEN THE CALL BEGINS. Each datum BY PROGRAM (the guide's laid-datum.mjs) off the statement by which the dump's own 'gosem.cut.vars' lays the variable. In a bare row this is a premise. The card (YtnpgdifidejohaaGreatDoorCards.lean) ties it to the program's text. -/
def laid_math_bits_deBruijn32tab {H : Type} : DataW H := .agg [.lit (.int .u8 0), .lit (.int .u8 1), .lit (.int .u8 28), .lit (.int .u8 2), .lit (.int .u8 29), .lit (.int .u8 14), .lit (.int .u8 24), .lit (.int .u8 3), .lit (.int .u8 30), .lit (.int .u8 22), .lit (.int .u8 20), .lit (.int .u8 15), .lit (.int .u8 25), .lit (.int .u8 17), .lit (.int .u8 4), .lit (.int .u8 8), .lit (.int .u8 31), .lit (.int .u8 27), .lit (.int .u8 13), .lit (.int .u8 23), .lit (.int .u8 21), .lit (.int .u8 19), .lit (.int .u8 16), .lit (.int .u8 7), .lit (.int .u8 26), .lit (.int .u8 12), .lit (.int .u8 18), .lit (.int .u8 6), .lit (.int .u8 11), .lit (.int .u8 5), .lit (.int .u8 10), .lit (.int .u8 9)]
def laid_math_bits_deBruijn64tab {H : Type} : DataW H := .agg [.lit (.int .u8 0), .lit (.int .u8 1), .lit (.int .u8 56), .lit (.int .u8 2), .lit (.int .u8 57), .lit (.int .u8 49), .lit (.int .u8 28), .lit (.int .u8 3), .lit (.int .u8 61), .lit (.int .u8 58), .lit (.int .u8 42), .lit (.int .u8 50), .lit (.int .u8 38), .lit (.int .u8 29), .lit (.int .u8 17), .lit (.int .u8 4), .lit (.int .u8 62), .lit (.int .u8 47), .lit (.int .u8 59), .lit (.int .u8 36), .lit (.int .u8 45), .lit (.int .u8 43), .lit (.int .u8 51), .lit (.int .u8 22), .lit (.int .u8 53), .lit (.int .u8 39), .lit (.int .u8 33), .lit (.int .u8 30), .lit (.int .u8 24), .lit (.int .u8 18), .lit (.int .u8 12), .lit (.int .u8 5), .lit (.int .u8 63), .lit (.int .u8 55), .lit (.int .u8 48), .lit (.int .u8 27), .lit (.int .u8 60), .lit (.int .u8 41), .lit (.int .u8 37), .lit (.int .u8 16), .lit (.int .u8 46), .lit (.int .u8 35), .lit (.int .u8 44), .lit (.int .u8 21), .lit (.int .u8 52), .lit (.int .u8 32), .lit (.int .u8 23), .lit (.int .u8 11), .lit (.int .u8 54), .lit (.int .u8 26), .lit (.int .u8 40), .lit (.int .u8 15), .lit (.int .u8 34), .lit (.int .u8 20), .lit (.int .u8 31), .lit (.int .u8 10), .lit (.int .u8 25), .lit (.int .u8 14), .lit (.int .u8 19), .lit (.int .u8 9), .lit (.int .u8 13), .lit (.int .u8 8), .lit (.int .u8 7), .lit (.int .u8 6)]
def laid_internal_strconv_uint64pow10 {H : Type} : DataW H := .agg [.lit (.int .u64 1), .lit (.int .u64 10), .lit (.int .u64 100), .lit (.int .u64 1000), .lit (.int .u64 10000), .lit (.int .u64 100000), .lit (.int .u64 1000000), .lit (.int .u64 10000000), .lit (.int .u64 100000000), .lit (.int .u64 1000000000), .lit (.int .u64 10000000000), .lit (.int .u64 100000000000), .lit (.int .u64 1000000000000), .lit (.int .u64 10000000000000), .lit (.int .u64 100000000000000), .lit (.int .u64 1000000000000000), .lit (.int .u64 10000000000000000), .lit (.int .u64 100000000000000000), .lit (.int .u64 1000000000000000000), .lit (.int .u64 10000000000000000000)]

/-- 'tellurionlaw06.DialLetters': WHATEVER THE INPUT: true; the input reads as it did. -/
def dialLettersSpec : ChangeSpec := { name := "dialLetters", fn := fun _ => fun
  | [d1, d2] => { results := [.lit (.bool true)], args := [d1, d2] }
  | _ => none }
def dialLettersRow : OpenClaim := { program := "ytnpgdifidejohaagreatdoor", sum := "66b0487b81f68888ae57cd9a93be99b9bb602744ce0df621e8e26c24a41a27ed", func := "tellurion/tellurionlaw06.DialLetters", spec := "dialLetters", inPlace := ["internal/abi.NoEscape", "internal/bytealg.MakeNoZero"], unfollowed := true, recurses := true, named := ["internal/strconv.uint64pow10", "math/bits.deBruijn32tab", "math/bits.deBruijn64tab"], plainKeys := false, apart := false, laid := [("math/bits.deBruijn32tab", laid_math_bits_deBruijn32tab), ("math/bits.deBruijn64tab", laid_math_bits_deBruijn64tab), ("internal/strconv.uint64pow10", laid_internal_strconv_uint64pow10)] }
def DialLettersSaid : Prop := dialLettersRow.holds Tryz.pinned (OpenSpec.ofChange dialLettersSpec)

/-- ITS FALSE NEIGHBOUR: 'it returns false'. Refute it at one input. -/
def dialLettersWrong : ChangeSpec := { name := "dialLetters", fn := fun _ => fun
  | [d1, d2] => { results := [.lit (.bool false)], args := [d1, d2] }
  | _ => none }
def DialLettersWrongFalsely : Prop := dialLettersRow.holds Tryz.pinned (OpenSpec.ofChange dialLettersWrong)

/-- 'tellurionlaw06.DialSundays': WHATEVER THE INPUT: true; the input reads as it did. -/
def dialSundaysSpec : ChangeSpec := { name := "dialSundays", fn := fun _ => fun
  | [d1, d2] => { results := [.lit (.bool true)], args := [d1, d2] }
  | _ => none }
def dialSundaysRow : OpenClaim := { program := "ytnpgdifidejohaagreatdoor", sum := "66b0487b81f68888ae57cd9a93be99b9bb602744ce0df621e8e26c24a41a27ed", func := "tellurion/tellurionlaw06.DialSundays", spec := "dialSundays", inPlace := ["internal/abi.NoEscape", "internal/bytealg.MakeNoZero"], unfollowed := true, recurses := true, named := ["internal/strconv.uint64pow10", "math/bits.deBruijn32tab", "math/bits.deBruijn64tab"], plainKeys := false, apart := false, laid := [("math/bits.deBruijn32tab", laid_math_bits_deBruijn32tab), ("math/bits.deBruijn64tab", laid_math_bits_deBruijn64tab), ("internal/strconv.uint64pow10", laid_internal_strconv_uint64pow10)] }
def DialSundaysSaid : Prop := dialSundaysRow.holds Tryz.pinned (OpenSpec.ofChange dialSundaysSpec)

/-- ITS FALSE NEIGHBOUR: 'it returns false'. Refute it at one input. -/
def dialSundaysWrong : ChangeSpec := { name := "dialSundays", fn := fun _ => fun
  | [d1, d2] => { results := [.lit (.bool false)], args := [d1, d2] }
  | _ => none }
def DialSundaysWrongFalsely : Prop := dialSundaysRow.holds Tryz.pinned (OpenSpec.ofChange dialSundaysWrong)

/-- 'tellurionlaw06.DialLiked': WHATEVER THE INPUT: true; the input reads as it did. -/
def dialLikedSpec : ChangeSpec := { name := "dialLiked", fn := fun _ => fun
  | [d1, d2, d3] => { results := [.lit (.bool true)], args := [d1, d2, d3] }
  | _ => none }
def dialLikedRow : OpenClaim := { program := "ytnpgdifidejohaagreatdoor", sum := "66b0487b81f68888ae57cd9a93be99b9bb602744ce0df621e8e26c24a41a27ed", func := "tellurion/tellurionlaw06.DialLiked", spec := "dialLiked", inPlace := ["internal/abi.NoEscape", "internal/bytealg.MakeNoZero"], unfollowed := true, recurses := true, named := ["internal/strconv.uint64pow10", "math/bits.deBruijn32tab", "math/bits.deBruijn64tab"], plainKeys := false, apart := false, laid := [("math/bits.deBruijn32tab", laid_math_bits_deBruijn32tab), ("math/bits.deBruijn64tab", laid_math_bits_deBruijn64tab), ("internal/strconv.uint64pow10", laid_internal_strconv_uint64pow10)] }
def DialLikedSaid : Prop := dialLikedRow.holds Tryz.pinned (OpenSpec.ofChange dialLikedSpec)

/-- ITS FALSE NEIGHBOUR: 'it returns false'. Refute it at one input. -/
def dialLikedWrong : ChangeSpec := { name := "dialLiked", fn := fun _ => fun
  | [d1, d2, d3] => { results := [.lit (.bool false)], args := [d1, d2, d3] }
  | _ => none }
def DialLikedWrongFalsely : Prop := dialLikedRow.holds Tryz.pinned (OpenSpec.ofChange dialLikedWrong)

/-- 'tellurionlaw06.DialDoubles': WHATEVER THE INPUT: true; the input reads as it did. -/
def dialDoublesSpec : ChangeSpec := { name := "dialDoubles", fn := fun _ => fun
  | [d1, d2, d3] => { results := [.lit (.bool true)], args := [d1, d2, d3] }
  | _ => none }
def dialDoublesRow : OpenClaim := { program := "ytnpgdifidejohaagreatdoor", sum := "66b0487b81f68888ae57cd9a93be99b9bb602744ce0df621e8e26c24a41a27ed", func := "tellurion/tellurionlaw06.DialDoubles", spec := "dialDoubles", inPlace := ["internal/abi.NoEscape", "internal/bytealg.MakeNoZero"], unfollowed := true, recurses := true, named := ["internal/strconv.uint64pow10", "math/bits.deBruijn32tab", "math/bits.deBruijn64tab"], plainKeys := false, apart := false, laid := [("math/bits.deBruijn32tab", laid_math_bits_deBruijn32tab), ("math/bits.deBruijn64tab", laid_math_bits_deBruijn64tab), ("internal/strconv.uint64pow10", laid_internal_strconv_uint64pow10)] }
def DialDoublesSaid : Prop := dialDoublesRow.holds Tryz.pinned (OpenSpec.ofChange dialDoublesSpec)

/-- ITS FALSE NEIGHBOUR: 'it returns false'. Refute it at one input. -/
def dialDoublesWrong : ChangeSpec := { name := "dialDoubles", fn := fun _ => fun
  | [d1, d2, d3] => { results := [.lit (.bool false)], args := [d1, d2, d3] }
  | _ => none }
def DialDoublesWrongFalsely : Prop := dialDoublesRow.holds Tryz.pinned (OpenSpec.ofChange dialDoublesWrong)

/-- 'tellurionlaw06.DialKept': WHATEVER THE INPUT: true; the input reads as it did. -/
def dialKeptSpec : ChangeSpec := { name := "dialKept", fn := fun _ => fun
  | [d1, d2, d3, d4, d5] => { results := [.lit (.bool true)], args := [d1, d2, d3, d4, d5] }
  | _ => none }
def dialKeptRow : OpenClaim := { program := "ytnpgdifidejohaagreatdoor", sum := "66b0487b81f68888ae57cd9a93be99b9bb602744ce0df621e8e26c24a41a27ed", func := "tellurion/tellurionlaw06.DialKept", spec := "dialKept", inPlace := ["internal/abi.NoEscape", "internal/bytealg.MakeNoZero"], unfollowed := true, recurses := true, named := ["internal/strconv.uint64pow10", "math/bits.deBruijn32tab", "math/bits.deBruijn64tab"], plainKeys := false, apart := false, laid := [("math/bits.deBruijn32tab", laid_math_bits_deBruijn32tab), ("math/bits.deBruijn64tab", laid_math_bits_deBruijn64tab), ("internal/strconv.uint64pow10", laid_internal_strconv_uint64pow10)] }
def DialKeptSaid : Prop := dialKeptRow.holds Tryz.pinned (OpenSpec.ofChange dialKeptSpec)

/-- ITS FALSE NEIGHBOUR: 'it returns false'. Refute it at one input. -/
def dialKeptWrong : ChangeSpec := { name := "dialKept", fn := fun _ => fun
  | [d1, d2, d3, d4, d5] => { results := [.lit (.bool false)], args := [d1, d2, d3, d4, d5] }
  | _ => none }
def DialKeptWrongFalsely : Prop := dialKeptRow.holds Tryz.pinned (OpenSpec.ofChange dialKeptWrong)

/-- 'tellurionlaw06.DialFound': WHATEVER THE INPUT: true; the input reads as it did. -/
def dialFoundSpec : ChangeSpec := { name := "dialFound", fn := fun _ => fun
  | [d1, d2, d3, d4, d5] => { results := [.lit (.bool true)], args := [d1, d2, d3, d4, d5] }
  | _ => none }
def dialFoundRow : OpenClaim := { program := "ytnpgdifidejohaagreatdoor", sum := "66b0487b81f68888ae57cd9a93be99b9bb602744ce0df621e8e26c24a41a27ed", func := "tellurion/tellurionlaw06.DialFound", spec := "dialFound", inPlace := ["internal/abi.NoEscape", "internal/bytealg.MakeNoZero"], unfollowed := true, recurses := true, named := ["internal/strconv.uint64pow10", "math/bits.deBruijn32tab", "math/bits.deBruijn64tab"], plainKeys := false, apart := false, laid := [("math/bits.deBruijn32tab", laid_math_bits_deBruijn32tab), ("math/bits.deBruijn64tab", laid_math_bits_deBruijn64tab), ("internal/strconv.uint64pow10", laid_internal_strconv_uint64pow10)] }
def DialFoundSaid : Prop := dialFoundRow.holds Tryz.pinned (OpenSpec.ofChange dialFoundSpec)

/-- ITS FALSE NEIGHBOUR: 'it returns false'. Refute it at one input. -/
def dialFoundWrong : ChangeSpec := { name := "dialFound", fn := fun _ => fun
  | [d1, d2, d3, d4, d5] => { results := [.lit (.bool false)], args := [d1, d2, d3, d4, d5] }
  | _ => none }
def DialFoundWrongFalsely : Prop := dialFoundRow.holds Tryz.pinned (OpenSpec.ofChange dialFoundWrong)

/-- 'tellurionlaw06.DialAsks': WHATEVER THE INPUT: true; the input reads as it did. -/
def dialAsksSpec : ChangeSpec := { name := "dialAsks", fn := fun _ => fun
  | [d1, d2, d3, d4, d5, d6] => { results := [.lit (.bool true)], args := [d1, d2, d3, d4, d5, d6] }
  | _ => none }
def dialAsksRow : OpenClaim := { program := "ytnpgdifidejohaagreatdoor", sum := "66b0487b81f68888ae57cd9a93be99b9bb602744ce0df621e8e26c24a41a27ed", func := "tellurion/tellurionlaw06.DialAsks", spec := "dialAsks", inPlace := ["internal/abi.NoEscape", "internal/bytealg.MakeNoZero"], unfollowed := true, recurses := true, named := ["internal/strconv.uint64pow10", "math/bits.deBruijn32tab", "math/bits.deBruijn64tab"], plainKeys := false, apart := false, laid := [("math/bits.deBruijn32tab", laid_math_bits_deBruijn32tab), ("math/bits.deBruijn64tab", laid_math_bits_deBruijn64tab), ("internal/strconv.uint64pow10", laid_internal_strconv_uint64pow10)] }
def DialAsksSaid : Prop := dialAsksRow.holds Tryz.pinned (OpenSpec.ofChange dialAsksSpec)

/-- ITS FALSE NEIGHBOUR: 'it returns false'. Refute it at one input. -/
def dialAsksWrong : ChangeSpec := { name := "dialAsks", fn := fun _ => fun
  | [d1, d2, d3, d4, d5, d6] => { results := [.lit (.bool false)], args := [d1, d2, d3, d4, d5, d6] }
  | _ => none }
def DialAsksWrongFalsely : Prop := dialAsksRow.holds Tryz.pinned (OpenSpec.ofChange dialAsksWrong)

/-- 'tellurionlaw06.DialAsked': WHATEVER THE INPUT: true; the input reads as it did. -/
def dialAskedSpec : ChangeSpec := { name := "dialAsked", fn := fun _ => fun
  | [d1, d2, d3, d4, d5, d6, d7, d8] => { results := [.lit (.bool true)], args := [d1, d2, d3, d4, d5, d6, d7, d8] }
  | _ => none }
def dialAskedRow : OpenClaim := { program := "ytnpgdifidejohaagreatdoor", sum := "66b0487b81f68888ae57cd9a93be99b9bb602744ce0df621e8e26c24a41a27ed", func := "tellurion/tellurionlaw06.DialAsked", spec := "dialAsked", inPlace := ["internal/abi.NoEscape", "internal/bytealg.MakeNoZero"], unfollowed := true, recurses := true, named := ["internal/strconv.uint64pow10", "math/bits.deBruijn32tab", "math/bits.deBruijn64tab"], plainKeys := false, apart := false, laid := [("math/bits.deBruijn32tab", laid_math_bits_deBruijn32tab), ("math/bits.deBruijn64tab", laid_math_bits_deBruijn64tab), ("internal/strconv.uint64pow10", laid_internal_strconv_uint64pow10)] }
def DialAskedSaid : Prop := dialAskedRow.holds Tryz.pinned (OpenSpec.ofChange dialAskedSpec)

/-- ITS FALSE NEIGHBOUR: 'it returns false'. Refute it at one input. -/
def dialAskedWrong : ChangeSpec := { name := "dialAsked", fn := fun _ => fun
  | [d1, d2, d3, d4, d5, d6, d7, d8] => { results := [.lit (.bool false)], args := [d1, d2, d3, d4, d5, d6, d7, d8] }
  | _ => none }
def DialAskedWrongFalsely : Prop := dialAskedRow.holds Tryz.pinned (OpenSpec.ofChange dialAskedWrong)

/-- 'tellurionlaw06.DialAges': WHATEVER THE INPUT: true; the input reads as it did. -/
def dialAgesSpec : ChangeSpec := { name := "dialAges", fn := fun _ => fun
  | [d1, d2] => { results := [.lit (.bool true)], args := [d1, d2] }
  | _ => none }
def dialAgesRow : OpenClaim := { program := "ytnpgdifidejohaagreatdoor", sum := "66b0487b81f68888ae57cd9a93be99b9bb602744ce0df621e8e26c24a41a27ed", func := "tellurion/tellurionlaw06.DialAges", spec := "dialAges", inPlace := ["internal/abi.NoEscape", "internal/bytealg.MakeNoZero"], unfollowed := true, recurses := true, named := ["internal/strconv.uint64pow10", "math/bits.deBruijn32tab", "math/bits.deBruijn64tab"], plainKeys := false, apart := false, laid := [("math/bits.deBruijn32tab", laid_math_bits_deBruijn32tab), ("math/bits.deBruijn64tab", laid_math_bits_deBruijn64tab), ("internal/strconv.uint64pow10", laid_internal_strconv_uint64pow10)] }
def DialAgesSaid : Prop := dialAgesRow.holds Tryz.pinned (OpenSpec.ofChange dialAgesSpec)

/-- ITS FALSE NEIGHBOUR: 'it returns false'. Refute it at one input. -/
def dialAgesWrong : ChangeSpec := { name := "dialAges", fn := fun _ => fun
  | [d1, d2] => { results := [.lit (.bool false)], args := [d1, d2] }
  | _ => none }
def DialAgesWrongFalsely : Prop := dialAgesRow.holds Tryz.pinned (OpenSpec.ofChange dialAgesWrong)

/-- 'tellurionlaw06.DialMonths': WHATEVER THE INPUT: true; the input reads as it did. -/
def dialMonthsSpec : ChangeSpec := { name := "dialMonths", fn := fun _ => fun
  | [d1, d2] => { results := [.lit (.bool true)], args := [d1, d2] }
  | _ => none }
def dialMonthsRow : OpenClaim := { program := "ytnpgdifidejohaagreatdoor", sum := "66b0487b81f68888ae57cd9a93be99b9bb602744ce0df621e8e26c24a41a27ed", func := "tellurion/tellurionlaw06.DialMonths", spec := "dialMonths", inPlace := ["internal/abi.NoEscape", "internal/bytealg.MakeNoZero"], unfollowed := true, recurses := true, named := ["internal/strconv.uint64pow10", "math/bits.deBruijn32tab", "math/bits.deBruijn64tab"], plainKeys := false, apart := false, laid := [("math/bits.deBruijn32tab", laid_math_bits_deBruijn32tab), ("math/bits.deBruijn64tab", laid_math_bits_deBruijn64tab), ("internal/strconv.uint64pow10", laid_internal_strconv_uint64pow10)] }
def DialMonthsSaid : Prop := dialMonthsRow.holds Tryz.pinned (OpenSpec.ofChange dialMonthsSpec)

/-- ITS FALSE NEIGHBOUR: 'it returns false'. Refute it at one input. -/
def dialMonthsWrong : ChangeSpec := { name := "dialMonths", fn := fun _ => fun
  | [d1, d2] => { results := [.lit (.bool false)], args := [d1, d2] }
  | _ => none }
def DialMonthsWrongFalsely : Prop := dialMonthsRow.holds Tryz.pinned (OpenSpec.ofChange dialMonthsWrong)

/-- 'tellurionlaw06.DialPaschal': WHATEVER THE INPUT: true; the input reads as it did. -/
def dialPaschalSpec : ChangeSpec := { name := "dialPaschal", fn := fun _ => fun
  | [d1, d2, d3] => { results := [.lit (.bool true)], args := [d1, d2, d3] }
  | _ => none }
def dialPaschalRow : OpenClaim := { program := "ytnpgdifidejohaagreatdoor", sum := "66b0487b81f68888ae57cd9a93be99b9bb602744ce0df621e8e26c24a41a27ed", func := "tellurion/tellurionlaw06.DialPaschal", spec := "dialPaschal", inPlace := ["internal/abi.NoEscape", "internal/bytealg.MakeNoZero"], unfollowed := true, recurses := true, named := ["internal/strconv.uint64pow10", "math/bits.deBruijn32tab", "math/bits.deBruijn64tab"], plainKeys := false, apart := false, laid := [("math/bits.deBruijn32tab", laid_math_bits_deBruijn32tab), ("math/bits.deBruijn64tab", laid_math_bits_deBruijn64tab), ("internal/strconv.uint64pow10", laid_internal_strconv_uint64pow10)] }
def DialPaschalSaid : Prop := dialPaschalRow.holds Tryz.pinned (OpenSpec.ofChange dialPaschalSpec)

/-- ITS FALSE NEIGHBOUR: 'it returns false'. Refute it at one input. -/
def dialPaschalWrong : ChangeSpec := { name := "dialPaschal", fn := fun _ => fun
  | [d1, d2, d3] => { results := [.lit (.bool false)], args := [d1, d2, d3] }
  | _ => none }
def DialPaschalWrongFalsely : Prop := dialPaschalRow.holds Tryz.pinned (OpenSpec.ofChange dialPaschalWrong)

/-- 'tellurionlaw06.DialProven': WHATEVER THE INPUT: true; the input reads as it did. -/
def dialProvenSpec : ChangeSpec := { name := "dialProven", fn := fun _ => fun
  | [d1, d2, d3, d4, d5, d6, d7] => { results := [.lit (.bool true)], args := [d1, d2, d3, d4, d5, d6, d7] }
  | _ => none }
def dialProvenRow : OpenClaim := { program := "ytnpgdifidejohaagreatdoor", sum := "66b0487b81f68888ae57cd9a93be99b9bb602744ce0df621e8e26c24a41a27ed", func := "tellurion/tellurionlaw06.DialProven", spec := "dialProven", inPlace := ["internal/abi.NoEscape", "internal/bytealg.MakeNoZero"], unfollowed := true, recurses := true, named := ["internal/strconv.uint64pow10", "math/bits.deBruijn32tab", "math/bits.deBruijn64tab"], plainKeys := false, apart := false, laid := [("math/bits.deBruijn32tab", laid_math_bits_deBruijn32tab), ("math/bits.deBruijn64tab", laid_math_bits_deBruijn64tab), ("internal/strconv.uint64pow10", laid_internal_strconv_uint64pow10)] }
def DialProvenSaid : Prop := dialProvenRow.holds Tryz.pinned (OpenSpec.ofChange dialProvenSpec)

/-- ITS FALSE NEIGHBOUR: 'it returns false'. Refute it at one input. -/
def dialProvenWrong : ChangeSpec := { name := "dialProven", fn := fun _ => fun
  | [d1, d2, d3, d4, d5, d6, d7] => { results := [.lit (.bool false)], args := [d1, d2, d3, d4, d5, d6, d7] }
  | _ => none }
def DialProvenWrongFalsely : Prop := dialProvenRow.holds Tryz.pinned (OpenSpec.ofChange dialProvenWrong)

/- THE SECOND FORM. 'bulk': how many values and letters a reading holds, each counted each time it is reached (what is shared counts as often as it is met; a slice's spare places count too). A statement '..UptoSaid' is the law's where the arguments, and the package variables that the reading takes, are together of bulk at most 1048576: NARROWER than '..Said'. Prove '..Said' where nothing that the law and all that it calls make is longer than what came in: it says more and counts as full. Else prove '..UptoSaid'. A law counts once. -/
mutual
def uptoBulk {H : Type} : DataW H → Nat
  | .lit (.string bytes) => bytes.length + 1
  | .lit _ => 1
  | .nil => 1
  | .ptr d => uptoBulk d + 1
  | .slice elems spare => uptoBulkAll elems + uptoBulkAll spare + 1
  | .agg parts => uptoBulkAll parts + 1
  | .iface _ d => uptoBulk d + 1
  | .map entries => uptoBulkEntries entries + 1
  | .held _ => 1
def uptoBulkAll {H : Type} : List (DataW H) → Nat
  | [] => 0
  | d :: r => uptoBulk d + uptoBulkAll r
def uptoBulkEntries {H : Type} : List (Lit × DataW H) → Nat
  | [] => 0
  | x :: r => uptoBulkEntry x + uptoBulkEntries r
def uptoBulkEntry {H : Type} : Lit × DataW H → Nat
  | (.string bytes, d) => bytes.length + uptoBulk d + 1
  | (_, d) => uptoBulk d + 1
 end
def uptoSmall : (H : Type) → List (DataW H) → Bool := fun _ ds => decide (uptoBulkAll ds ≤ 1048576)
def OpenSpec.upto (s : _root_.Go.ChangeSpec) : _root_.Go.OpenSpec := { _root_.Go.OpenSpec.ofChange s with cond := some uptoSmall }

/-- 'tellurionlaw06.DialLetters', WHERE WHAT IT READS IS OF BULK AT MOST 1048576: true; the input reads as it did. -/
def dialLettersUptoRow : OpenClaim := { program := "ytnpgdifidejohaagreatdoor", sum := "66b0487b81f68888ae57cd9a93be99b9bb602744ce0df621e8e26c24a41a27ed", func := "tellurion/tellurionlaw06.DialLetters", spec := "dialLetters", inPlace := ["internal/abi.NoEscape", "internal/bytealg.MakeNoZero"], unfollowed := true, recurses := true, named := ["internal/strconv.uint64pow10", "math/bits.deBruijn32tab", "math/bits.deBruijn64tab"], plainKeys := false, apart := false, laid := [("math/bits.deBruijn32tab", laid_math_bits_deBruijn32tab), ("math/bits.deBruijn64tab", laid_math_bits_deBruijn64tab), ("internal/strconv.uint64pow10", laid_internal_strconv_uint64pow10)], narrowed := true }
def DialLettersUptoSaid : Prop := dialLettersUptoRow.holds Tryz.pinned (OpenSpec.upto dialLettersSpec)

/-- 'tellurionlaw06.DialSundays', WHERE WHAT IT READS IS OF BULK AT MOST 1048576: true; the input reads as it did. -/
def dialSundaysUptoRow : OpenClaim := { program := "ytnpgdifidejohaagreatdoor", sum := "66b0487b81f68888ae57cd9a93be99b9bb602744ce0df621e8e26c24a41a27ed", func := "tellurion/tellurionlaw06.DialSundays", spec := "dialSundays", inPlace := ["internal/abi.NoEscape", "internal/bytealg.MakeNoZero"], unfollowed := true, recurses := true, named := ["internal/strconv.uint64pow10", "math/bits.deBruijn32tab", "math/bits.deBruijn64tab"], plainKeys := false, apart := false, laid := [("math/bits.deBruijn32tab", laid_math_bits_deBruijn32tab), ("math/bits.deBruijn64tab", laid_math_bits_deBruijn64tab), ("internal/strconv.uint64pow10", laid_internal_strconv_uint64pow10)], narrowed := true }
def DialSundaysUptoSaid : Prop := dialSundaysUptoRow.holds Tryz.pinned (OpenSpec.upto dialSundaysSpec)

/-- 'tellurionlaw06.DialLiked', WHERE WHAT IT READS IS OF BULK AT MOST 1048576: true; the input reads as it did. -/
def dialLikedUptoRow : OpenClaim := { program := "ytnpgdifidejohaagreatdoor", sum := "66b0487b81f68888ae57cd9a93be99b9bb602744ce0df621e8e26c24a41a27ed", func := "tellurion/tellurionlaw06.DialLiked", spec := "dialLiked", inPlace := ["internal/abi.NoEscape", "internal/bytealg.MakeNoZero"], unfollowed := true, recurses := true, named := ["internal/strconv.uint64pow10", "math/bits.deBruijn32tab", "math/bits.deBruijn64tab"], plainKeys := false, apart := false, laid := [("math/bits.deBruijn32tab", laid_math_bits_deBruijn32tab), ("math/bits.deBruijn64tab", laid_math_bits_deBruijn64tab), ("internal/strconv.uint64pow10", laid_internal_strconv_uint64pow10)], narrowed := true }
def DialLikedUptoSaid : Prop := dialLikedUptoRow.holds Tryz.pinned (OpenSpec.upto dialLikedSpec)

/-- 'tellurionlaw06.DialDoubles', WHERE WHAT IT READS IS OF BULK AT MOST 1048576: true; the input reads as it did. -/
def dialDoublesUptoRow : OpenClaim := { program := "ytnpgdifidejohaagreatdoor", sum := "66b0487b81f68888ae57cd9a93be99b9bb602744ce0df621e8e26c24a41a27ed", func := "tellurion/tellurionlaw06.DialDoubles", spec := "dialDoubles", inPlace := ["internal/abi.NoEscape", "internal/bytealg.MakeNoZero"], unfollowed := true, recurses := true, named := ["internal/strconv.uint64pow10", "math/bits.deBruijn32tab", "math/bits.deBruijn64tab"], plainKeys := false, apart := false, laid := [("math/bits.deBruijn32tab", laid_math_bits_deBruijn32tab), ("math/bits.deBruijn64tab", laid_math_bits_deBruijn64tab), ("internal/strconv.uint64pow10", laid_internal_strconv_uint64pow10)], narrowed := true }
def DialDoublesUptoSaid : Prop := dialDoublesUptoRow.holds Tryz.pinned (OpenSpec.upto dialDoublesSpec)

/-- 'tellurionlaw06.DialKept', WHERE WHAT IT READS IS OF BULK AT MOST 1048576: true; the input reads as it did. -/
def dialKeptUptoRow : OpenClaim := { program := "ytnpgdifidejohaagreatdoor", sum := "66b0487b81f68888ae57cd9a93be99b9bb602744ce0df621e8e26c24a41a27ed", func := "tellurion/tellurionlaw06.DialKept", spec := "dialKept", inPlace := ["internal/abi.NoEscape", "internal/bytealg.MakeNoZero"], unfollowed := true, recurses := true, named := ["internal/strconv.uint64pow10", "math/bits.deBruijn32tab", "math/bits.deBruijn64tab"], plainKeys := false, apart := false, laid := [("math/bits.deBruijn32tab", laid_math_bits_deBruijn32tab), ("math/bits.deBruijn64tab", laid_math_bits_deBruijn64tab), ("internal/strconv.uint64pow10", laid_internal_strconv_uint64pow10)], narrowed := true }
def DialKeptUptoSaid : Prop := dialKeptUptoRow.holds Tryz.pinned (OpenSpec.upto dialKeptSpec)

/-- 'tellurionlaw06.DialFound', WHERE WHAT IT READS IS OF BULK AT MOST 1048576: true; the input reads as it did. -/
def dialFoundUptoRow : OpenClaim := { program := "ytnpgdifidejohaagreatdoor", sum := "66b0487b81f68888ae57cd9a93be99b9bb602744ce0df621e8e26c24a41a27ed", func := "tellurion/tellurionlaw06.DialFound", spec := "dialFound", inPlace := ["internal/abi.NoEscape", "internal/bytealg.MakeNoZero"], unfollowed := true, recurses := true, named := ["internal/strconv.uint64pow10", "math/bits.deBruijn32tab", "math/bits.deBruijn64tab"], plainKeys := false, apart := false, laid := [("math/bits.deBruijn32tab", laid_math_bits_deBruijn32tab), ("math/bits.deBruijn64tab", laid_math_bits_deBruijn64tab), ("internal/strconv.uint64pow10", laid_internal_strconv_uint64pow10)], narrowed := true }
def DialFoundUptoSaid : Prop := dialFoundUptoRow.holds Tryz.pinned (OpenSpec.upto dialFoundSpec)

/-- 'tellurionlaw06.DialAsks', WHERE WHAT IT READS IS OF BULK AT MOST 1048576: true; the input reads as it did. -/
def dialAsksUptoRow : OpenClaim := { program := "ytnpgdifidejohaagreatdoor", sum := "66b0487b81f68888ae57cd9a93be99b9bb602744ce0df621e8e26c24a41a27ed", func := "tellurion/tellurionlaw06.DialAsks", spec := "dialAsks", inPlace := ["internal/abi.NoEscape", "internal/bytealg.MakeNoZero"], unfollowed := true, recurses := true, named := ["internal/strconv.uint64pow10", "math/bits.deBruijn32tab", "math/bits.deBruijn64tab"], plainKeys := false, apart := false, laid := [("math/bits.deBruijn32tab", laid_math_bits_deBruijn32tab), ("math/bits.deBruijn64tab", laid_math_bits_deBruijn64tab), ("internal/strconv.uint64pow10", laid_internal_strconv_uint64pow10)], narrowed := true }
def DialAsksUptoSaid : Prop := dialAsksUptoRow.holds Tryz.pinned (OpenSpec.upto dialAsksSpec)

/-- 'tellurionlaw06.DialAsked', WHERE WHAT IT READS IS OF BULK AT MOST 1048576: true; the input reads as it did. -/
def dialAskedUptoRow : OpenClaim := { program := "ytnpgdifidejohaagreatdoor", sum := "66b0487b81f68888ae57cd9a93be99b9bb602744ce0df621e8e26c24a41a27ed", func := "tellurion/tellurionlaw06.DialAsked", spec := "dialAsked", inPlace := ["internal/abi.NoEscape", "internal/bytealg.MakeNoZero"], unfollowed := true, recurses := true, named := ["internal/strconv.uint64pow10", "math/bits.deBruijn32tab", "math/bits.deBruijn64tab"], plainKeys := false, apart := false, laid := [("math/bits.deBruijn32tab", laid_math_bits_deBruijn32tab), ("math/bits.deBruijn64tab", laid_math_bits_deBruijn64tab), ("internal/strconv.uint64pow10", laid_internal_strconv_uint64pow10)], narrowed := true }
def DialAskedUptoSaid : Prop := dialAskedUptoRow.holds Tryz.pinned (OpenSpec.upto dialAskedSpec)

/-- 'tellurionlaw06.DialAges', WHERE WHAT IT READS IS OF BULK AT MOST 1048576: true; the input reads as it did. -/
def dialAgesUptoRow : OpenClaim := { program := "ytnpgdifidejohaagreatdoor", sum := "66b0487b81f68888ae57cd9a93be99b9bb602744ce0df621e8e26c24a41a27ed", func := "tellurion/tellurionlaw06.DialAges", spec := "dialAges", inPlace := ["internal/abi.NoEscape", "internal/bytealg.MakeNoZero"], unfollowed := true, recurses := true, named := ["internal/strconv.uint64pow10", "math/bits.deBruijn32tab", "math/bits.deBruijn64tab"], plainKeys := false, apart := false, laid := [("math/bits.deBruijn32tab", laid_math_bits_deBruijn32tab), ("math/bits.deBruijn64tab", laid_math_bits_deBruijn64tab), ("internal/strconv.uint64pow10", laid_internal_strconv_uint64pow10)], narrowed := true }
def DialAgesUptoSaid : Prop := dialAgesUptoRow.holds Tryz.pinned (OpenSpec.upto dialAgesSpec)

/-- 'tellurionlaw06.DialMonths', WHERE WHAT IT READS IS OF BULK AT MOST 1048576: true; the input reads as it did. -/
def dialMonthsUptoRow : OpenClaim := { program := "ytnpgdifidejohaagreatdoor", sum := "66b0487b81f68888ae57cd9a93be99b9bb602744ce0df621e8e26c24a41a27ed", func := "tellurion/tellurionlaw06.DialMonths", spec := "dialMonths", inPlace := ["internal/abi.NoEscape", "internal/bytealg.MakeNoZero"], unfollowed := true, recurses := true, named := ["internal/strconv.uint64pow10", "math/bits.deBruijn32tab", "math/bits.deBruijn64tab"], plainKeys := false, apart := false, laid := [("math/bits.deBruijn32tab", laid_math_bits_deBruijn32tab), ("math/bits.deBruijn64tab", laid_math_bits_deBruijn64tab), ("internal/strconv.uint64pow10", laid_internal_strconv_uint64pow10)], narrowed := true }
def DialMonthsUptoSaid : Prop := dialMonthsUptoRow.holds Tryz.pinned (OpenSpec.upto dialMonthsSpec)

/-- 'tellurionlaw06.DialPaschal', WHERE WHAT IT READS IS OF BULK AT MOST 1048576: true; the input reads as it did. -/
def dialPaschalUptoRow : OpenClaim := { program := "ytnpgdifidejohaagreatdoor", sum := "66b0487b81f68888ae57cd9a93be99b9bb602744ce0df621e8e26c24a41a27ed", func := "tellurion/tellurionlaw06.DialPaschal", spec := "dialPaschal", inPlace := ["internal/abi.NoEscape", "internal/bytealg.MakeNoZero"], unfollowed := true, recurses := true, named := ["internal/strconv.uint64pow10", "math/bits.deBruijn32tab", "math/bits.deBruijn64tab"], plainKeys := false, apart := false, laid := [("math/bits.deBruijn32tab", laid_math_bits_deBruijn32tab), ("math/bits.deBruijn64tab", laid_math_bits_deBruijn64tab), ("internal/strconv.uint64pow10", laid_internal_strconv_uint64pow10)], narrowed := true }
def DialPaschalUptoSaid : Prop := dialPaschalUptoRow.holds Tryz.pinned (OpenSpec.upto dialPaschalSpec)

/-- 'tellurionlaw06.DialProven', WHERE WHAT IT READS IS OF BULK AT MOST 1048576: true; the input reads as it did. -/
def dialProvenUptoRow : OpenClaim := { program := "ytnpgdifidejohaagreatdoor", sum := "66b0487b81f68888ae57cd9a93be99b9bb602744ce0df621e8e26c24a41a27ed", func := "tellurion/tellurionlaw06.DialProven", spec := "dialProven", inPlace := ["internal/abi.NoEscape", "internal/bytealg.MakeNoZero"], unfollowed := true, recurses := true, named := ["internal/strconv.uint64pow10", "math/bits.deBruijn32tab", "math/bits.deBruijn64tab"], plainKeys := false, apart := false, laid := [("math/bits.deBruijn32tab", laid_math_bits_deBruijn32tab), ("math/bits.deBruijn64tab", laid_math_bits_deBruijn64tab), ("internal/strconv.uint64pow10", laid_internal_strconv_uint64pow10)], narrowed := true }
def DialProvenUptoSaid : Prop := dialProvenUptoRow.holds Tryz.pinned (OpenSpec.upto dialProvenSpec)

end Rows
end Go.Proofs.YtnpgdifidejohaaGreatDoor
