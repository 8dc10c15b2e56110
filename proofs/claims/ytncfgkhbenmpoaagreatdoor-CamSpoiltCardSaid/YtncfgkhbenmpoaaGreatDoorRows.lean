/-
  NARROWER THAN 'FOR EVERY INPUT', by the rows' own cells (each row's printed sentence says how): CamNearests: laid · CamKnowns: laid · CamTrue: laid · CamEnds: laid · CamFollows: laid · CamFoot: laid · CamStations: laid · CamRetreats: laid · CamMore: laid · CamPlaces: laid · CamTurns: laid · CamStood: laid · CamBack: laid · CamCarved: laid · CamShifts: laid · CamShifted: laid · CamRivals: laid · CamFitted: laid · CamPrints: laid · CamReads: laid · CamSpoilt: laid.
  DERIVED. THE GIVEN ROWS OF THIS SEAT. 21 by the template 'for every input the law returns true; each argument reads behind the call as it read before'; 0 by the template 'total and deterministic' (their statements: YtncfgkhbenmpoaaGreatDoorTotals.lean).
  GIVEN WITH THE SEED: the statements are not yours to turn. If you find one false, say at which input.
  Laid BY PROGRAM, IN A SANDBOX (cutbox-rows.mjs): the forced cells as the released guide's own fill.sh prints them over the translation 6a6521b0cb665f56… (all of the seat's roots in one cut). By AI agents, Wed Nov 11 2026. No macro, syntax, notation, axiom, sorry.
-/
import Derived.Test.YtncfgkhbenmpoaaGreatDoorChecked
import GoSem.PinnedTables
import GoSem.Claim
import GoSem.ClaimJoined
import GoSem.ClaimMapViews
import Derived.JoinedTies
import Derived.KernelRfl
namespace Go.Proofs.YtncfgkhbenmpoaaGreatDoor
/- THE CELL 'sum', in the pinned program and in every row, IS THE sha256 OF THE DUMP (.gsa) THAT YtncfgkhbenmpoaaGreatDoorProg.lean LOADS. Nothing in Lean hashes anything: it is a label: what it is worth is what the hold of that sum in a sandbox is worth. -/
noncomputable def Tryz.pinned : Pinned := { name := "ytncfgkhbenmpoaagreatdoor", sum := "6a6521b0cb665f56b0687dd9c3052b6253c10de3cd07d623111dbfc9576d80f4", checked := Tryz.checked }
namespace Rows
def none {H : Type} : Left H := { results := [], args := [] }

/- WHAT THE LISTED PACKAGE-LEVEL VARIABLES READ AS WHEN THE CALL BEGINS. Each datum BY PROGRAM (the guide's laid-datum.mjs) off the statement by which the dump's own 'gosem.cut.vars' lays the variable. In a bare row this is a premise. The card (YtncfgkhbenmpoaaGreatDoorCards.lean) ties it to the program's text. -/
def laid_math_bits_deBruijn32tab {H : Type} : DataW H := .agg [.lit (.int .u8 0), .lit (.int .u8 1), .lit (.int .u8 28), .lit (.int .u8 2), .lit (.int .u8 29), .lit (.int .u8 14), .lit (.int .u8 24), .lit (.int .u8 3), .lit (.int .u8 30), .lit (.int .u8 22), .lit (.int .u8 20), .lit (.int .u8 15), .lit (.int .u8 25), .lit (.int .u8 17), .lit (.int .u8 4), .lit (.int .u8 8), .lit (.int .u8 31), .lit (.int .u8 27), .lit (.int .u8 13), .lit (.int .u8 23), .lit (.int .u8 21), .lit (.int .u8 19), .lit (.int .u8 16), .lit (.int .u8 7), .lit (.int .u8 26), .lit (.int .u8 12), .lit (.int .u8 18), .lit (.int .u8 6), .lit (.int .u8 11), .lit (.int .u8 5), .lit (.int .u8 10), .lit (.int .u8 9)]
def laid_math_bits_deBruijn64tab {H : Type} : DataW H := .agg [.lit (.int .u8 0), .lit (.int .u8 1), .lit (.int .u8 56), .lit (.int .u8 2), .lit (.int .u8 57), .lit (.int .u8 49), .lit (.int .u8 28), .lit (.int .u8 3), .lit (.int .u8 61), .lit (.int .u8 58), .lit (.int .u8 42), .lit (.int .u8 50), .lit (.int .u8 38), .lit (.int .u8 29), .lit (.int .u8 17), .lit (.int .u8 4), .lit (.int .u8 62), .lit (.int .u8 47), .lit (.int .u8 59), .lit (.int .u8 36), .lit (.int .u8 45), .lit (.int .u8 43), .lit (.int .u8 51), .lit (.int .u8 22), .lit (.int .u8 53), .lit (.int .u8 39), .lit (.int .u8 33), .lit (.int .u8 30), .lit (.int .u8 24), .lit (.int .u8 18), .lit (.int .u8 12), .lit (.int .u8 5), .lit (.int .u8 63), .lit (.int .u8 55), .lit (.int .u8 48), .lit (.int .u8 27), .lit (.int .u8 60), .lit (.int .u8 41), .lit (.int .u8 37), .lit (.int .u8 16), .lit (.int .u8 46), .lit (.int .u8 35), .lit (.int .u8 44), .lit (.int .u8 21), .lit (.int .u8 52), .lit (.int .u8 32), .lit (.int .u8 23), .lit (.int .u8 11), .lit (.int .u8 54), .lit (.int .u8 26), .lit (.int .u8 40), .lit (.int .u8 15), .lit (.int .u8 34), .lit (.int .u8 20), .lit (.int .u8 31), .lit (.int .u8 10), .lit (.int .u8 25), .lit (.int .u8 14), .lit (.int .u8 19), .lit (.int .u8 9), .lit (.int .u8 13), .lit (.int .u8 8), .lit (.int .u8 7), .lit (.int .u8 6)]
def laid_internal_strconv_uint64pow10 {H : Type} : DataW H := .agg [.lit (.int .u64 1), .lit (.int .u64 10), .lit (.int .u64 100), .lit (.int .u64 1000), .lit (.int .u64 10000), .lit (.int .u64 100000), .lit (.int .u64 1000000), .lit (.int .u64 10000000), .lit (.int .u64 100000000), .lit (.int .u64 1000000000), .lit (.int .u64 10000000000), .lit (.int .u64 100000000000), .lit (.int .u64 1000000000000), .lit (.int .u64 10000000000000), .lit (.int .u64 100000000000000), .lit (.int .u64 1000000000000000), .lit (.int .u64 10000000000000000), .lit (.int .u64 100000000000000000), .lit (.int .u64 1000000000000000000), .lit (.int .u64 10000000000000000000)]
def laid_unicode_utf8_acceptRanges {H : Type} : DataW H := .agg [.agg [.lit (.int .u8 128), .lit (.int .u8 191)], .agg [.lit (.int .u8 160), .lit (.int .u8 191)], .agg [.lit (.int .u8 128), .lit (.int .u8 159)], .agg [.lit (.int .u8 144), .lit (.int .u8 191)], .agg [.lit (.int .u8 128), .lit (.int .u8 143)], .agg [.lit (.int .u8 0), .lit (.int .u8 0)], .agg [.lit (.int .u8 0), .lit (.int .u8 0)], .agg [.lit (.int .u8 0), .lit (.int .u8 0)], .agg [.lit (.int .u8 0), .lit (.int .u8 0)], .agg [.lit (.int .u8 0), .lit (.int .u8 0)], .agg [.lit (.int .u8 0), .lit (.int .u8 0)], .agg [.lit (.int .u8 0), .lit (.int .u8 0)], .agg [.lit (.int .u8 0), .lit (.int .u8 0)], .agg [.lit (.int .u8 0), .lit (.int .u8 0)], .agg [.lit (.int .u8 0), .lit (.int .u8 0)], .agg [.lit (.int .u8 0), .lit (.int .u8 0)]]
/-- One of Go's own tables, pinned by name: the form's constant. -/
def laid_unicode_utf8_first : DataW Unit := Go.Pinned.utf8First

/-- 'tellurionlaw04.CamNearests': WHATEVER THE INPUT: true; the input reads as it did. -/
def camNearestsSpec : ChangeSpec := { name := "camNearests", fn := fun _ => fun
  | [d1, d2] => { results := [.lit (.bool true)], args := [d1, d2] }
  | _ => none }
def camNearestsRow : OpenClaim := { program := "ytncfgkhbenmpoaagreatdoor", sum := "6a6521b0cb665f56b0687dd9c3052b6253c10de3cd07d623111dbfc9576d80f4", func := "tellurion/tellurionlaw04.CamNearests", spec := "camNearests", inPlace := ["internal/abi.NoEscape", "internal/bytealg.MakeNoZero"], unfollowed := true, recurses := true, named := ["internal/strconv.uint64pow10", "math/bits.deBruijn32tab", "math/bits.deBruijn64tab"], plainKeys := false, apart := false, laid := [("math/bits.deBruijn32tab", laid_math_bits_deBruijn32tab), ("math/bits.deBruijn64tab", laid_math_bits_deBruijn64tab), ("internal/strconv.uint64pow10", laid_internal_strconv_uint64pow10)] }
def CamNearestsSaid : Prop := camNearestsRow.holds Tryz.pinned (OpenSpec.ofChange camNearestsSpec)

/-- ITS FALSE NEIGHBOUR: 'it returns false'. Refute it at one input. -/
def camNearestsWrong : ChangeSpec := { name := "camNearests", fn := fun _ => fun
  | [d1, d2] => { results := [.lit (.bool false)], args := [d1, d2] }
  | _ => none }
def CamNearestsWrongFalsely : Prop := camNearestsRow.holds Tryz.pinned (OpenSpec.ofChange camNearestsWrong)

/-- 'tellurionlaw04.CamKnowns': WHATEVER THE INPUT: true; the input reads as it did. -/
def camKnownsSpec : ChangeSpec := { name := "camKnowns", fn := fun _ => fun
  | [d1, d2, d3] => { results := [.lit (.bool true)], args := [d1, d2, d3] }
  | _ => none }
def camKnownsRow : OpenClaim := { program := "ytncfgkhbenmpoaagreatdoor", sum := "6a6521b0cb665f56b0687dd9c3052b6253c10de3cd07d623111dbfc9576d80f4", func := "tellurion/tellurionlaw04.CamKnowns", spec := "camKnowns", inPlace := ["internal/abi.NoEscape", "internal/bytealg.MakeNoZero"], unfollowed := true, recurses := true, named := ["internal/strconv.uint64pow10", "math/bits.deBruijn32tab", "math/bits.deBruijn64tab"], plainKeys := false, apart := false, laid := [("math/bits.deBruijn32tab", laid_math_bits_deBruijn32tab), ("math/bits.deBruijn64tab", laid_math_bits_deBruijn64tab), ("internal/strconv.uint64pow10", laid_internal_strconv_uint64pow10)] }
def CamKnownsSaid : Prop := camKnownsRow.holds Tryz.pinned (OpenSpec.ofChange camKnownsSpec)

/-- ITS FALSE NEIGHBOUR: 'it returns false'. Refute it at one input. -/
def camKnownsWrong : ChangeSpec := { name := "camKnowns", fn := fun _ => fun
  | [d1, d2, d3] => { results := [.lit (.bool false)], args := [d1, d2, d3] }
  | _ => none }
def CamKnownsWrongFalsely : Prop := camKnownsRow.holds Tryz.pinned (OpenSpec.ofChange camKnownsWrong)

/-- 'tellurionlaw04.CamTrue': WHATEVER THE INPUT: true; the input reads as it did. -/
def camTrueSpec : ChangeSpec := { name := "camTrue", fn := fun _ => fun
  | [d1, d2, d3, d4] => { results := [.lit (.bool true)], args := [d1, d2, d3, d4] }
  | _ => none }
def camTrueRow : OpenClaim := { program := "ytncfgkhbenmpoaagreatdoor", sum := "6a6521b0cb665f56b0687dd9c3052b6253c10de3cd07d623111dbfc9576d80f4", func := "tellurion/tellurionlaw04.CamTrue", spec := "camTrue", inPlace := ["internal/abi.NoEscape", "internal/bytealg.MakeNoZero"], unfollowed := true, recurses := true, named := ["internal/strconv.uint64pow10", "math/bits.deBruijn32tab", "math/bits.deBruijn64tab"], plainKeys := false, apart := false, laid := [("math/bits.deBruijn32tab", laid_math_bits_deBruijn32tab), ("math/bits.deBruijn64tab", laid_math_bits_deBruijn64tab), ("internal/strconv.uint64pow10", laid_internal_strconv_uint64pow10)] }
def CamTrueSaid : Prop := camTrueRow.holds Tryz.pinned (OpenSpec.ofChange camTrueSpec)

/-- ITS FALSE NEIGHBOUR: 'it returns false'. Refute it at one input. -/
def camTrueWrong : ChangeSpec := { name := "camTrue", fn := fun _ => fun
  | [d1, d2, d3, d4] => { results := [.lit (.bool false)], args := [d1, d2, d3, d4] }
  | _ => none }
def CamTrueWrongFalsely : Prop := camTrueRow.holds Tryz.pinned (OpenSpec.ofChange camTrueWrong)

/-- 'tellurionlaw04.CamEnds': WHATEVER THE INPUT: true; the input reads as it did. -/
def camEndsSpec : ChangeSpec := { name := "camEnds", fn := fun _ => fun
  | [d1, d2, d3] => { results := [.lit (.bool true)], args := [d1, d2, d3] }
  | _ => none }
def camEndsRow : OpenClaim := { program := "ytncfgkhbenmpoaagreatdoor", sum := "6a6521b0cb665f56b0687dd9c3052b6253c10de3cd07d623111dbfc9576d80f4", func := "tellurion/tellurionlaw04.CamEnds", spec := "camEnds", inPlace := ["internal/abi.NoEscape", "internal/bytealg.MakeNoZero"], unfollowed := true, recurses := true, named := ["internal/strconv.uint64pow10", "math/bits.deBruijn32tab", "math/bits.deBruijn64tab"], plainKeys := false, apart := false, laid := [("math/bits.deBruijn32tab", laid_math_bits_deBruijn32tab), ("math/bits.deBruijn64tab", laid_math_bits_deBruijn64tab), ("internal/strconv.uint64pow10", laid_internal_strconv_uint64pow10)] }
def CamEndsSaid : Prop := camEndsRow.holds Tryz.pinned (OpenSpec.ofChange camEndsSpec)

/-- ITS FALSE NEIGHBOUR: 'it returns false'. Refute it at one input. -/
def camEndsWrong : ChangeSpec := { name := "camEnds", fn := fun _ => fun
  | [d1, d2, d3] => { results := [.lit (.bool false)], args := [d1, d2, d3] }
  | _ => none }
def CamEndsWrongFalsely : Prop := camEndsRow.holds Tryz.pinned (OpenSpec.ofChange camEndsWrong)

/-- 'tellurionlaw04.CamFollows': WHATEVER THE INPUT: true; the input reads as it did. -/
def camFollowsSpec : ChangeSpec := { name := "camFollows", fn := fun _ => fun
  | [d1, d2] => { results := [.lit (.bool true)], args := [d1, d2] }
  | _ => none }
def camFollowsRow : OpenClaim := { program := "ytncfgkhbenmpoaagreatdoor", sum := "6a6521b0cb665f56b0687dd9c3052b6253c10de3cd07d623111dbfc9576d80f4", func := "tellurion/tellurionlaw04.CamFollows", spec := "camFollows", inPlace := ["internal/abi.NoEscape", "internal/bytealg.MakeNoZero"], unfollowed := true, recurses := true, named := ["internal/strconv.uint64pow10", "math/bits.deBruijn32tab", "math/bits.deBruijn64tab"], plainKeys := false, apart := false, laid := [("math/bits.deBruijn32tab", laid_math_bits_deBruijn32tab), ("math/bits.deBruijn64tab", laid_math_bits_deBruijn64tab), ("internal/strconv.uint64pow10", laid_internal_strconv_uint64pow10)] }
def CamFollowsSaid : Prop := camFollowsRow.holds Tryz.pinned (OpenSpec.ofChange camFollowsSpec)

/-- ITS FALSE NEIGHBOUR: 'it returns false'. Refute it at one input. -/
def camFollowsWrong : ChangeSpec := { name := "camFollows", fn := fun _ => fun
  | [d1, d2] => { results := [.lit (.bool false)], args := [d1, d2] }
  | _ => none }
def CamFollowsWrongFalsely : Prop := camFollowsRow.holds Tryz.pinned (OpenSpec.ofChange camFollowsWrong)

/-- 'tellurionlaw04.CamFoot': WHATEVER THE INPUT: true; the input reads as it did. -/
def camFootSpec : ChangeSpec := { name := "camFoot", fn := fun _ => fun
  | [d1, d2, d3, d4, d5] => { results := [.lit (.bool true)], args := [d1, d2, d3, d4, d5] }
  | _ => none }
def camFootRow : OpenClaim := { program := "ytncfgkhbenmpoaagreatdoor", sum := "6a6521b0cb665f56b0687dd9c3052b6253c10de3cd07d623111dbfc9576d80f4", func := "tellurion/tellurionlaw04.CamFoot", spec := "camFoot", inPlace := ["internal/abi.NoEscape", "internal/bytealg.MakeNoZero"], unfollowed := true, recurses := true, named := ["internal/strconv.uint64pow10", "math/bits.deBruijn32tab", "math/bits.deBruijn64tab"], plainKeys := false, apart := false, laid := [("math/bits.deBruijn32tab", laid_math_bits_deBruijn32tab), ("math/bits.deBruijn64tab", laid_math_bits_deBruijn64tab), ("internal/strconv.uint64pow10", laid_internal_strconv_uint64pow10)] }
def CamFootSaid : Prop := camFootRow.holds Tryz.pinned (OpenSpec.ofChange camFootSpec)

/-- ITS FALSE NEIGHBOUR: 'it returns false'. Refute it at one input. -/
def camFootWrong : ChangeSpec := { name := "camFoot", fn := fun _ => fun
  | [d1, d2, d3, d4, d5] => { results := [.lit (.bool false)], args := [d1, d2, d3, d4, d5] }
  | _ => none }
def CamFootWrongFalsely : Prop := camFootRow.holds Tryz.pinned (OpenSpec.ofChange camFootWrong)

/-- 'tellurionlaw04.CamStations': WHATEVER THE INPUT: true; the input reads as it did. -/
def camStationsSpec : ChangeSpec := { name := "camStations", fn := fun _ => fun
  | [d1, d2, d3] => { results := [.lit (.bool true)], args := [d1, d2, d3] }
  | _ => none }
def camStationsRow : OpenClaim := { program := "ytncfgkhbenmpoaagreatdoor", sum := "6a6521b0cb665f56b0687dd9c3052b6253c10de3cd07d623111dbfc9576d80f4", func := "tellurion/tellurionlaw04.CamStations", spec := "camStations", inPlace := ["internal/abi.NoEscape", "internal/bytealg.MakeNoZero"], unfollowed := true, recurses := true, named := ["internal/strconv.uint64pow10", "math/bits.deBruijn32tab", "math/bits.deBruijn64tab"], plainKeys := false, apart := false, laid := [("math/bits.deBruijn32tab", laid_math_bits_deBruijn32tab), ("math/bits.deBruijn64tab", laid_math_bits_deBruijn64tab), ("internal/strconv.uint64pow10", laid_internal_strconv_uint64pow10)] }
def CamStationsSaid : Prop := camStationsRow.holds Tryz.pinned (OpenSpec.ofChange camStationsSpec)

/-- ITS FALSE NEIGHBOUR: 'it returns false'. Refute it at one input. -/
def camStationsWrong : ChangeSpec := { name := "camStations", fn := fun _ => fun
  | [d1, d2, d3] => { results := [.lit (.bool false)], args := [d1, d2, d3] }
  | _ => none }
def CamStationsWrongFalsely : Prop := camStationsRow.holds Tryz.pinned (OpenSpec.ofChange camStationsWrong)

/-- 'tellurionlaw04.CamRetreats': WHATEVER THE INPUT: true; the input reads as it did. -/
def camRetreatsSpec : ChangeSpec := { name := "camRetreats", fn := fun _ => fun
  | [d1, d2] => { results := [.lit (.bool true)], args := [d1, d2] }
  | _ => none }
def camRetreatsRow : OpenClaim := { program := "ytncfgkhbenmpoaagreatdoor", sum := "6a6521b0cb665f56b0687dd9c3052b6253c10de3cd07d623111dbfc9576d80f4", func := "tellurion/tellurionlaw04.CamRetreats", spec := "camRetreats", inPlace := ["internal/abi.NoEscape", "internal/bytealg.MakeNoZero"], unfollowed := true, recurses := true, named := ["internal/strconv.uint64pow10", "math/bits.deBruijn32tab", "math/bits.deBruijn64tab"], plainKeys := false, apart := false, laid := [("math/bits.deBruijn32tab", laid_math_bits_deBruijn32tab), ("math/bits.deBruijn64tab", laid_math_bits_deBruijn64tab), ("internal/strconv.uint64pow10", laid_internal_strconv_uint64pow10)] }
def CamRetreatsSaid : Prop := camRetreatsRow.holds Tryz.pinned (OpenSpec.ofChange camRetreatsSpec)

/-- ITS FALSE NEIGHBOUR: 'it returns false'. Refute it at one input. -/
def camRetreatsWrong : ChangeSpec := { name := "camRetreats", fn := fun _ => fun
  | [d1, d2] => { results := [.lit (.bool false)], args := [d1, d2] }
  | _ => none }
def CamRetreatsWrongFalsely : Prop := camRetreatsRow.holds Tryz.pinned (OpenSpec.ofChange camRetreatsWrong)

/-- 'tellurionlaw04.CamMore': WHATEVER THE INPUT: true; the input reads as it did. -/
def camMoreSpec : ChangeSpec := { name := "camMore", fn := fun _ => fun
  | [d1, d2, d3, d4, d5] => { results := [.lit (.bool true)], args := [d1, d2, d3, d4, d5] }
  | _ => none }
def camMoreRow : OpenClaim := { program := "ytncfgkhbenmpoaagreatdoor", sum := "6a6521b0cb665f56b0687dd9c3052b6253c10de3cd07d623111dbfc9576d80f4", func := "tellurion/tellurionlaw04.CamMore", spec := "camMore", inPlace := ["internal/abi.NoEscape", "internal/bytealg.MakeNoZero"], unfollowed := true, recurses := true, named := ["internal/strconv.uint64pow10", "math/bits.deBruijn32tab", "math/bits.deBruijn64tab"], plainKeys := false, apart := false, laid := [("math/bits.deBruijn32tab", laid_math_bits_deBruijn32tab), ("math/bits.deBruijn64tab", laid_math_bits_deBruijn64tab), ("internal/strconv.uint64pow10", laid_internal_strconv_uint64pow10)] }
def CamMoreSaid : Prop := camMoreRow.holds Tryz.pinned (OpenSpec.ofChange camMoreSpec)

/-- ITS FALSE NEIGHBOUR: 'it returns false'. Refute it at one input. -/
def camMoreWrong : ChangeSpec := { name := "camMore", fn := fun _ => fun
  | [d1, d2, d3, d4, d5] => { results := [.lit (.bool false)], args := [d1, d2, d3, d4, d5] }
  | _ => none }
def CamMoreWrongFalsely : Prop := camMoreRow.holds Tryz.pinned (OpenSpec.ofChange camMoreWrong)

/-- 'tellurionlaw04.CamPlaces': WHATEVER THE INPUT: true; the input reads as it did. -/
def camPlacesSpec : ChangeSpec := { name := "camPlaces", fn := fun _ => fun
  | [d1, d2, d3] => { results := [.lit (.bool true)], args := [d1, d2, d3] }
  | _ => none }
def camPlacesRow : OpenClaim := { program := "ytncfgkhbenmpoaagreatdoor", sum := "6a6521b0cb665f56b0687dd9c3052b6253c10de3cd07d623111dbfc9576d80f4", func := "tellurion/tellurionlaw04.CamPlaces", spec := "camPlaces", inPlace := ["internal/abi.NoEscape", "internal/bytealg.MakeNoZero"], unfollowed := true, recurses := true, named := ["internal/strconv.uint64pow10", "math/bits.deBruijn32tab", "math/bits.deBruijn64tab"], plainKeys := false, apart := false, laid := [("math/bits.deBruijn32tab", laid_math_bits_deBruijn32tab), ("math/bits.deBruijn64tab", laid_math_bits_deBruijn64tab), ("internal/strconv.uint64pow10", laid_internal_strconv_uint64pow10)] }
def CamPlacesSaid : Prop := camPlacesRow.holds Tryz.pinned (OpenSpec.ofChange camPlacesSpec)

/-- ITS FALSE NEIGHBOUR: 'it returns false'. Refute it at one input. -/
def camPlacesWrong : ChangeSpec := { name := "camPlaces", fn := fun _ => fun
  | [d1, d2, d3] => { results := [.lit (.bool false)], args := [d1, d2, d3] }
  | _ => none }
def CamPlacesWrongFalsely : Prop := camPlacesRow.holds Tryz.pinned (OpenSpec.ofChange camPlacesWrong)

/-- 'tellurionlaw04.CamTurns': WHATEVER THE INPUT: true; the input reads as it did. -/
def camTurnsSpec : ChangeSpec := { name := "camTurns", fn := fun _ => fun
  | [d1, d2, d3, d4] => { results := [.lit (.bool true)], args := [d1, d2, d3, d4] }
  | _ => none }
def camTurnsRow : OpenClaim := { program := "ytncfgkhbenmpoaagreatdoor", sum := "6a6521b0cb665f56b0687dd9c3052b6253c10de3cd07d623111dbfc9576d80f4", func := "tellurion/tellurionlaw04.CamTurns", spec := "camTurns", inPlace := ["internal/abi.NoEscape", "internal/bytealg.MakeNoZero"], unfollowed := true, recurses := true, named := ["internal/strconv.uint64pow10", "math/bits.deBruijn32tab", "math/bits.deBruijn64tab"], plainKeys := false, apart := false, laid := [("math/bits.deBruijn32tab", laid_math_bits_deBruijn32tab), ("math/bits.deBruijn64tab", laid_math_bits_deBruijn64tab), ("internal/strconv.uint64pow10", laid_internal_strconv_uint64pow10)] }
def CamTurnsSaid : Prop := camTurnsRow.holds Tryz.pinned (OpenSpec.ofChange camTurnsSpec)

/-- ITS FALSE NEIGHBOUR: 'it returns false'. Refute it at one input. -/
def camTurnsWrong : ChangeSpec := { name := "camTurns", fn := fun _ => fun
  | [d1, d2, d3, d4] => { results := [.lit (.bool false)], args := [d1, d2, d3, d4] }
  | _ => none }
def CamTurnsWrongFalsely : Prop := camTurnsRow.holds Tryz.pinned (OpenSpec.ofChange camTurnsWrong)

/-- 'tellurionlaw04.CamStood': WHATEVER THE INPUT: true; the input reads as it did. -/
def camStoodSpec : ChangeSpec := { name := "camStood", fn := fun _ => fun
  | [d1, d2, d3] => { results := [.lit (.bool true)], args := [d1, d2, d3] }
  | _ => none }
def camStoodRow : OpenClaim := { program := "ytncfgkhbenmpoaagreatdoor", sum := "6a6521b0cb665f56b0687dd9c3052b6253c10de3cd07d623111dbfc9576d80f4", func := "tellurion/tellurionlaw04.CamStood", spec := "camStood", inPlace := ["internal/abi.NoEscape", "internal/bytealg.MakeNoZero"], unfollowed := true, recurses := true, named := ["internal/strconv.uint64pow10", "math/bits.deBruijn32tab", "math/bits.deBruijn64tab"], plainKeys := false, apart := false, laid := [("math/bits.deBruijn32tab", laid_math_bits_deBruijn32tab), ("math/bits.deBruijn64tab", laid_math_bits_deBruijn64tab), ("internal/strconv.uint64pow10", laid_internal_strconv_uint64pow10)] }
def CamStoodSaid : Prop := camStoodRow.holds Tryz.pinned (OpenSpec.ofChange camStoodSpec)

/-- ITS FALSE NEIGHBOUR: 'it returns false'. Refute it at one input. -/
def camStoodWrong : ChangeSpec := { name := "camStood", fn := fun _ => fun
  | [d1, d2, d3] => { results := [.lit (.bool false)], args := [d1, d2, d3] }
  | _ => none }
def CamStoodWrongFalsely : Prop := camStoodRow.holds Tryz.pinned (OpenSpec.ofChange camStoodWrong)

/-- 'tellurionlaw04.CamBack': WHATEVER THE INPUT: true; the input reads as it did. -/
def camBackSpec : ChangeSpec := { name := "camBack", fn := fun _ => fun
  | [d1, d2, d3, d4] => { results := [.lit (.bool true)], args := [d1, d2, d3, d4] }
  | _ => none }
def camBackRow : OpenClaim := { program := "ytncfgkhbenmpoaagreatdoor", sum := "6a6521b0cb665f56b0687dd9c3052b6253c10de3cd07d623111dbfc9576d80f4", func := "tellurion/tellurionlaw04.CamBack", spec := "camBack", inPlace := ["internal/abi.NoEscape", "internal/bytealg.MakeNoZero"], unfollowed := true, recurses := true, named := ["internal/strconv.uint64pow10", "math/bits.deBruijn32tab", "math/bits.deBruijn64tab"], plainKeys := false, apart := false, laid := [("math/bits.deBruijn32tab", laid_math_bits_deBruijn32tab), ("math/bits.deBruijn64tab", laid_math_bits_deBruijn64tab), ("internal/strconv.uint64pow10", laid_internal_strconv_uint64pow10)] }
def CamBackSaid : Prop := camBackRow.holds Tryz.pinned (OpenSpec.ofChange camBackSpec)

/-- ITS FALSE NEIGHBOUR: 'it returns false'. Refute it at one input. -/
def camBackWrong : ChangeSpec := { name := "camBack", fn := fun _ => fun
  | [d1, d2, d3, d4] => { results := [.lit (.bool false)], args := [d1, d2, d3, d4] }
  | _ => none }
def CamBackWrongFalsely : Prop := camBackRow.holds Tryz.pinned (OpenSpec.ofChange camBackWrong)

/-- 'tellurionlaw04.CamCarved': WHATEVER THE INPUT: true; the input reads as it did. -/
def camCarvedSpec : ChangeSpec := { name := "camCarved", fn := fun _ => fun
  | [d1, d2, d3, d4] => { results := [.lit (.bool true)], args := [d1, d2, d3, d4] }
  | _ => none }
def camCarvedRow : OpenClaim := { program := "ytncfgkhbenmpoaagreatdoor", sum := "6a6521b0cb665f56b0687dd9c3052b6253c10de3cd07d623111dbfc9576d80f4", func := "tellurion/tellurionlaw04.CamCarved", spec := "camCarved", inPlace := ["internal/abi.NoEscape", "internal/bytealg.MakeNoZero"], unfollowed := true, recurses := true, named := ["internal/strconv.uint64pow10", "math/bits.deBruijn32tab", "math/bits.deBruijn64tab"], plainKeys := false, apart := false, laid := [("math/bits.deBruijn32tab", laid_math_bits_deBruijn32tab), ("math/bits.deBruijn64tab", laid_math_bits_deBruijn64tab), ("internal/strconv.uint64pow10", laid_internal_strconv_uint64pow10)] }
def CamCarvedSaid : Prop := camCarvedRow.holds Tryz.pinned (OpenSpec.ofChange camCarvedSpec)

/-- ITS FALSE NEIGHBOUR: 'it returns false'. Refute it at one input. -/
def camCarvedWrong : ChangeSpec := { name := "camCarved", fn := fun _ => fun
  | [d1, d2, d3, d4] => { results := [.lit (.bool false)], args := [d1, d2, d3, d4] }
  | _ => none }
def CamCarvedWrongFalsely : Prop := camCarvedRow.holds Tryz.pinned (OpenSpec.ofChange camCarvedWrong)

/-- 'tellurionlaw04.CamShifts': WHATEVER THE INPUT: true; the input reads as it did. -/
def camShiftsSpec : ChangeSpec := { name := "camShifts", fn := fun _ => fun
  | [d1, d2] => { results := [.lit (.bool true)], args := [d1, d2] }
  | _ => none }
def camShiftsRow : OpenClaim := { program := "ytncfgkhbenmpoaagreatdoor", sum := "6a6521b0cb665f56b0687dd9c3052b6253c10de3cd07d623111dbfc9576d80f4", func := "tellurion/tellurionlaw04.CamShifts", spec := "camShifts", inPlace := ["internal/abi.NoEscape", "internal/bytealg.MakeNoZero"], unfollowed := true, recurses := true, named := ["internal/strconv.uint64pow10", "math/bits.deBruijn32tab", "math/bits.deBruijn64tab"], plainKeys := false, apart := false, laid := [("math/bits.deBruijn32tab", laid_math_bits_deBruijn32tab), ("math/bits.deBruijn64tab", laid_math_bits_deBruijn64tab), ("internal/strconv.uint64pow10", laid_internal_strconv_uint64pow10)] }
def CamShiftsSaid : Prop := camShiftsRow.holds Tryz.pinned (OpenSpec.ofChange camShiftsSpec)

/-- ITS FALSE NEIGHBOUR: 'it returns false'. Refute it at one input. -/
def camShiftsWrong : ChangeSpec := { name := "camShifts", fn := fun _ => fun
  | [d1, d2] => { results := [.lit (.bool false)], args := [d1, d2] }
  | _ => none }
def CamShiftsWrongFalsely : Prop := camShiftsRow.holds Tryz.pinned (OpenSpec.ofChange camShiftsWrong)

/-- 'tellurionlaw04.CamShifted': WHATEVER THE INPUT: true; the input reads as it did. -/
def camShiftedSpec : ChangeSpec := { name := "camShifted", fn := fun _ => fun
  | [d1, d2, d3] => { results := [.lit (.bool true)], args := [d1, d2, d3] }
  | _ => none }
def camShiftedRow : OpenClaim := { program := "ytncfgkhbenmpoaagreatdoor", sum := "6a6521b0cb665f56b0687dd9c3052b6253c10de3cd07d623111dbfc9576d80f4", func := "tellurion/tellurionlaw04.CamShifted", spec := "camShifted", inPlace := ["internal/abi.NoEscape", "internal/bytealg.MakeNoZero"], unfollowed := true, recurses := true, named := ["internal/strconv.uint64pow10", "math/bits.deBruijn32tab", "math/bits.deBruijn64tab"], plainKeys := false, apart := false, laid := [("math/bits.deBruijn32tab", laid_math_bits_deBruijn32tab), ("math/bits.deBruijn64tab", laid_math_bits_deBruijn64tab), ("internal/strconv.uint64pow10", laid_internal_strconv_uint64pow10)] }
def CamShiftedSaid : Prop := camShiftedRow.holds Tryz.pinned (OpenSpec.ofChange camShiftedSpec)

/-- ITS FALSE NEIGHBOUR: 'it returns false'. Refute it at one input. -/
def camShiftedWrong : ChangeSpec := { name := "camShifted", fn := fun _ => fun
  | [d1, d2, d3] => { results := [.lit (.bool false)], args := [d1, d2, d3] }
  | _ => none }
def CamShiftedWrongFalsely : Prop := camShiftedRow.holds Tryz.pinned (OpenSpec.ofChange camShiftedWrong)

/-- 'tellurionlaw04.CamRivals': WHATEVER THE INPUT: true; the input reads as it did. -/
def camRivalsSpec : ChangeSpec := { name := "camRivals", fn := fun _ => fun
  | [d1, d2, d3] => { results := [.lit (.bool true)], args := [d1, d2, d3] }
  | _ => none }
def camRivalsRow : OpenClaim := { program := "ytncfgkhbenmpoaagreatdoor", sum := "6a6521b0cb665f56b0687dd9c3052b6253c10de3cd07d623111dbfc9576d80f4", func := "tellurion/tellurionlaw04.CamRivals", spec := "camRivals", inPlace := ["internal/abi.NoEscape", "internal/bytealg.MakeNoZero"], unfollowed := true, recurses := true, named := ["internal/strconv.uint64pow10", "math/bits.deBruijn32tab", "math/bits.deBruijn64tab"], plainKeys := false, apart := false, laid := [("math/bits.deBruijn32tab", laid_math_bits_deBruijn32tab), ("math/bits.deBruijn64tab", laid_math_bits_deBruijn64tab), ("internal/strconv.uint64pow10", laid_internal_strconv_uint64pow10)] }
def CamRivalsSaid : Prop := camRivalsRow.holds Tryz.pinned (OpenSpec.ofChange camRivalsSpec)

/-- ITS FALSE NEIGHBOUR: 'it returns false'. Refute it at one input. -/
def camRivalsWrong : ChangeSpec := { name := "camRivals", fn := fun _ => fun
  | [d1, d2, d3] => { results := [.lit (.bool false)], args := [d1, d2, d3] }
  | _ => none }
def CamRivalsWrongFalsely : Prop := camRivalsRow.holds Tryz.pinned (OpenSpec.ofChange camRivalsWrong)

/-- 'tellurionlaw04.CamFitted': WHATEVER THE INPUT: true; the input reads as it did. -/
def camFittedSpec : ChangeSpec := { name := "camFitted", fn := fun _ => fun
  | [d1, d2, d3] => { results := [.lit (.bool true)], args := [d1, d2, d3] }
  | _ => none }
def camFittedRow : OpenClaim := { program := "ytncfgkhbenmpoaagreatdoor", sum := "6a6521b0cb665f56b0687dd9c3052b6253c10de3cd07d623111dbfc9576d80f4", func := "tellurion/tellurionlaw04.CamFitted", spec := "camFitted", inPlace := ["internal/abi.NoEscape", "internal/bytealg.MakeNoZero"], unfollowed := true, recurses := true, named := ["internal/strconv.uint64pow10", "math/bits.deBruijn32tab", "math/bits.deBruijn64tab"], plainKeys := false, apart := false, laid := [("math/bits.deBruijn32tab", laid_math_bits_deBruijn32tab), ("math/bits.deBruijn64tab", laid_math_bits_deBruijn64tab), ("internal/strconv.uint64pow10", laid_internal_strconv_uint64pow10)] }
def CamFittedSaid : Prop := camFittedRow.holds Tryz.pinned (OpenSpec.ofChange camFittedSpec)

/-- ITS FALSE NEIGHBOUR: 'it returns false'. Refute it at one input. -/
def camFittedWrong : ChangeSpec := { name := "camFitted", fn := fun _ => fun
  | [d1, d2, d3] => { results := [.lit (.bool false)], args := [d1, d2, d3] }
  | _ => none }
def CamFittedWrongFalsely : Prop := camFittedRow.holds Tryz.pinned (OpenSpec.ofChange camFittedWrong)

/-- 'tellurionlaw04.CamPrints': WHATEVER THE INPUT: true; the input reads as it did. -/
def camPrintsSpec : ChangeSpec := { name := "camPrints", fn := fun _ => fun
  | [d1, d2] => { results := [.lit (.bool true)], args := [d1, d2] }
  | _ => none }
def camPrintsRow : OpenClaim := { program := "ytncfgkhbenmpoaagreatdoor", sum := "6a6521b0cb665f56b0687dd9c3052b6253c10de3cd07d623111dbfc9576d80f4", func := "tellurion/tellurionlaw04.CamPrints", spec := "camPrints", inPlace := ["internal/abi.NoEscape", "internal/bytealg.MakeNoZero", "internal/bytealg.CountString", "internal/bytealg.IndexByteString", "internal/bytealg.IndexString"], unfollowed := true, recurses := true, named := ["internal/strconv.uint64pow10", "math/bits.deBruijn32tab", "math/bits.deBruijn64tab", "unicode/utf8.first", "unicode/utf8.acceptRanges", "internal/bytealg.MaxLen"], plainKeys := false, apart := false, laid := [("math/bits.deBruijn32tab", laid_math_bits_deBruijn32tab), ("math/bits.deBruijn64tab", laid_math_bits_deBruijn64tab), ("internal/strconv.uint64pow10", laid_internal_strconv_uint64pow10), ("unicode/utf8.acceptRanges", laid_unicode_utf8_acceptRanges), ("unicode/utf8.first", laid_unicode_utf8_first)] }
def CamPrintsSaid : Prop := camPrintsRow.holds Tryz.pinned (OpenSpec.ofChange camPrintsSpec)

/-- ITS FALSE NEIGHBOUR: 'it returns false'. Refute it at one input. -/
def camPrintsWrong : ChangeSpec := { name := "camPrints", fn := fun _ => fun
  | [d1, d2] => { results := [.lit (.bool false)], args := [d1, d2] }
  | _ => none }
def CamPrintsWrongFalsely : Prop := camPrintsRow.holds Tryz.pinned (OpenSpec.ofChange camPrintsWrong)

/-- 'tellurionlaw04.CamReads': WHATEVER THE INPUT: true; the input reads as it did. -/
def camReadsSpec : ChangeSpec := { name := "camReads", fn := fun _ => fun
  | [d] => { results := [.lit (.bool true)], args := [d] }
  | _ => none }
def camReadsRow : OpenClaim := { program := "ytncfgkhbenmpoaagreatdoor", sum := "6a6521b0cb665f56b0687dd9c3052b6253c10de3cd07d623111dbfc9576d80f4", func := "tellurion/tellurionlaw04.CamReads", spec := "camReads", inPlace := ["internal/abi.NoEscape", "internal/bytealg.MakeNoZero", "internal/bytealg.CountString", "internal/bytealg.IndexByteString", "internal/bytealg.IndexString"], unfollowed := true, recurses := true, named := ["internal/strconv.uint64pow10", "math/bits.deBruijn32tab", "math/bits.deBruijn64tab", "unicode/utf8.first", "unicode/utf8.acceptRanges", "internal/bytealg.MaxLen"], plainKeys := false, apart := false, laid := [("math/bits.deBruijn32tab", laid_math_bits_deBruijn32tab), ("math/bits.deBruijn64tab", laid_math_bits_deBruijn64tab), ("internal/strconv.uint64pow10", laid_internal_strconv_uint64pow10), ("unicode/utf8.acceptRanges", laid_unicode_utf8_acceptRanges), ("unicode/utf8.first", laid_unicode_utf8_first)] }
def CamReadsSaid : Prop := camReadsRow.holds Tryz.pinned (OpenSpec.ofChange camReadsSpec)

/-- ITS FALSE NEIGHBOUR: 'it returns false'. Refute it at one input. -/
def camReadsWrong : ChangeSpec := { name := "camReads", fn := fun _ => fun
  | [d] => { results := [.lit (.bool false)], args := [d] }
  | _ => none }
def CamReadsWrongFalsely : Prop := camReadsRow.holds Tryz.pinned (OpenSpec.ofChange camReadsWrong)

/-- 'tellurionlaw04.CamSpoilt': WHATEVER THE INPUT: true; the input reads as it did. -/
def camSpoiltSpec : ChangeSpec := { name := "camSpoilt", fn := fun _ => fun
  | [d1, d2, d3, d4] => { results := [.lit (.bool true)], args := [d1, d2, d3, d4] }
  | _ => none }
def camSpoiltRow : OpenClaim := { program := "ytncfgkhbenmpoaagreatdoor", sum := "6a6521b0cb665f56b0687dd9c3052b6253c10de3cd07d623111dbfc9576d80f4", func := "tellurion/tellurionlaw04.CamSpoilt", spec := "camSpoilt", inPlace := ["internal/abi.NoEscape", "internal/bytealg.MakeNoZero", "internal/bytealg.CountString", "internal/bytealg.IndexByteString", "internal/bytealg.IndexString"], unfollowed := true, recurses := true, named := ["internal/strconv.uint64pow10", "math/bits.deBruijn32tab", "math/bits.deBruijn64tab", "unicode/utf8.first", "unicode/utf8.acceptRanges", "internal/bytealg.MaxLen"], plainKeys := false, apart := false, laid := [("math/bits.deBruijn32tab", laid_math_bits_deBruijn32tab), ("math/bits.deBruijn64tab", laid_math_bits_deBruijn64tab), ("internal/strconv.uint64pow10", laid_internal_strconv_uint64pow10), ("unicode/utf8.acceptRanges", laid_unicode_utf8_acceptRanges), ("unicode/utf8.first", laid_unicode_utf8_first)] }
def CamSpoiltSaid : Prop := camSpoiltRow.holds Tryz.pinned (OpenSpec.ofChange camSpoiltSpec)

/-- ITS FALSE NEIGHBOUR: 'it returns false'. Refute it at one input. -/
def camSpoiltWrong : ChangeSpec := { name := "camSpoilt", fn := fun _ => fun
  | [d1, d2, d3, d4] => { results := [.lit (.bool false)], args := [d1, d2, d3, d4] }
  | _ => none }
def CamSpoiltWrongFalsely : Prop := camSpoiltRow.holds Tryz.pinned (OpenSpec.ofChange camSpoiltWrong)

/- THE SECOND FORM. 'bulk': how many values and letters a reading holds, each counted each time it is reached (what is shared counts as often as it is met; a slice's spare places count too). A statement '..UptoSaid' is the law's where the arguments, and the package variables that the reading takes, are together of bulk at most 1048576: NARROWER than '..Said'. Prove '..Said' where nothing that the law and all that it calls make is longer than what came in: it says more and counts as full. Else prove '..UptoSaid'. A law counts once. -/
mutual
def uptoBulk {H : Type} : DataW H → Nat
  | .lit (.string bytes) => bytes.length + 1
  | .lit _ => 1
  | .nil => 1
  | .ptr d => uptoBulk d + 1
  | .slice elems spare => uptoBulkAll elems + uptoBulkAll spare + 1
  | .agg parts => uptoBulkAll parts + 1
  | .iface _ d => uptoBulk d + 1
  | .map entries => uptoBulkEntries entries + 1
  | .held _ => 1
def uptoBulkAll {H : Type} : List (DataW H) → Nat
  | [] => 0
  | d :: r => uptoBulk d + uptoBulkAll r
def uptoBulkEntries {H : Type} : List (Lit × DataW H) → Nat
  | [] => 0
  | x :: r => uptoBulkEntry x + uptoBulkEntries r
def uptoBulkEntry {H : Type} : Lit × DataW H → Nat
  | (.string bytes, d) => bytes.length + uptoBulk d + 1
  | (_, d) => uptoBulk d + 1
 end
def uptoSmall : (H : Type) → List (DataW H) → Bool := fun _ ds => decide (uptoBulkAll ds ≤ 1048576)
def OpenSpec.upto (s : _root_.Go.ChangeSpec) : _root_.Go.OpenSpec := { _root_.Go.OpenSpec.ofChange s with cond := some uptoSmall }

/-- 'tellurionlaw04.CamNearests', WHERE WHAT IT READS IS OF BULK AT MOST 1048576: true; the input reads as it did. -/
def camNearestsUptoRow : OpenClaim := { program := "ytncfgkhbenmpoaagreatdoor", sum := "6a6521b0cb665f56b0687dd9c3052b6253c10de3cd07d623111dbfc9576d80f4", func := "tellurion/tellurionlaw04.CamNearests", spec := "camNearests", inPlace := ["internal/abi.NoEscape", "internal/bytealg.MakeNoZero"], unfollowed := true, recurses := true, named := ["internal/strconv.uint64pow10", "math/bits.deBruijn32tab", "math/bits.deBruijn64tab"], plainKeys := false, apart := false, laid := [("math/bits.deBruijn32tab", laid_math_bits_deBruijn32tab), ("math/bits.deBruijn64tab", laid_math_bits_deBruijn64tab), ("internal/strconv.uint64pow10", laid_internal_strconv_uint64pow10)], narrowed := true }
def CamNearestsUptoSaid : Prop := camNearestsUptoRow.holds Tryz.pinned (OpenSpec.upto camNearestsSpec)

/-- 'tellurionlaw04.CamKnowns', WHERE WHAT IT READS IS OF BULK AT MOST 1048576: true; the input reads as it did. -/
def camKnownsUptoRow : OpenClaim := { program := "ytncfgkhbenmpoaagreatdoor", sum := "6a6521b0cb665f56b0687dd9c3052b6253c10de3cd07d623111dbfc9576d80f4", func := "tellurion/tellurionlaw04.CamKnowns", spec := "camKnowns", inPlace := ["internal/abi.NoEscape", "internal/bytealg.MakeNoZero"], unfollowed := true, recurses := true, named := ["internal/strconv.uint64pow10", "math/bits.deBruijn32tab", "math/bits.deBruijn64tab"], plainKeys := false, apart := false, laid := [("math/bits.deBruijn32tab", laid_math_bits_deBruijn32tab), ("math/bits.deBruijn64tab", laid_math_bits_deBruijn64tab), ("internal/strconv.uint64pow10", laid_internal_strconv_uint64pow10)], narrowed := true }
def CamKnownsUptoSaid : Prop := camKnownsUptoRow.holds Tryz.pinned (OpenSpec.upto camKnownsSpec)

/-- 'tellurionlaw04.CamTrue', WHERE WHAT IT READS IS OF BULK AT MOST 1048576: true; the input reads as it did. -/
def camTrueUptoRow : OpenClaim := { program := "ytncfgkhbenmpoaagreatdoor", sum := "6a6521b0cb665f56b0687dd9c3052b6253c10de3cd07d623111dbfc9576d80f4", func := "tellurion/tellurionlaw04.CamTrue", spec := "camTrue", inPlace := ["internal/abi.NoEscape", "internal/bytealg.MakeNoZero"], unfollowed := true, recurses := true, named := ["internal/strconv.uint64pow10", "math/bits.deBruijn32tab", "math/bits.deBruijn64tab"], plainKeys := false, apart := false, laid := [("math/bits.deBruijn32tab", laid_math_bits_deBruijn32tab), ("math/bits.deBruijn64tab", laid_math_bits_deBruijn64tab), ("internal/strconv.uint64pow10", laid_internal_strconv_uint64pow10)], narrowed := true }
def CamTrueUptoSaid : Prop := camTrueUptoRow.holds Tryz.pinned (OpenSpec.upto camTrueSpec)

/-- 'tellurionlaw04.CamEnds', WHERE WHAT IT READS IS OF BULK AT MOST 1048576: true; the input reads as it did. -/
def camEndsUptoRow : OpenClaim := { program := "ytncfgkhbenmpoaagreatdoor", sum := "6a6521b0cb665f56b0687dd9c3052b6253c10de3cd07d623111dbfc9576d80f4", func := "tellurion/tellurionlaw04.CamEnds", spec := "camEnds", inPlace := ["internal/abi.NoEscape", "internal/bytealg.MakeNoZero"], unfollowed := true, recurses := true, named := ["internal/strconv.uint64pow10", "math/bits.deBruijn32tab", "math/bits.deBruijn64tab"], plainKeys := false, apart := false, laid := [("math/bits.deBruijn32tab", laid_math_bits_deBruijn32tab), ("math/bits.deBruijn64tab", laid_math_bits_deBruijn64tab), ("internal/strconv.uint64pow10", laid_internal_strconv_uint64pow10)], narrowed := true }
def CamEndsUptoSaid : Prop := camEndsUptoRow.holds Tryz.pinned (OpenSpec.upto camEndsSpec)

/-- 'tellurionlaw04.CamFollows', WHERE WHAT IT READS IS OF BULK AT MOST 1048576: true; the input reads as it did. -/
def camFollowsUptoRow : OpenClaim := { program := "ytncfgkhbenmpoaagreatdoor", sum := "6a6521b0cb665f56b0687dd9c3052b6253c10de3cd07d623111dbfc9576d80f4", func := "tellurion/tellurionlaw04.CamFollows", spec := "camFollows", inPlace := ["internal/abi.NoEscape", "internal/bytealg.MakeNoZero"], unfollowed := true, recurses := true, named := ["internal/strconv.uint64pow10", "math/bits.deBruijn32tab", "math/bits.deBruijn64tab"], plainKeys := false, apart := false, laid := [("math/bits.deBruijn32tab", laid_math_bits_deBruijn32tab), ("math/bits.deBruijn64tab", laid_math_bits_deBruijn64tab), ("internal/strconv.uint64pow10", laid_internal_strconv_uint64pow10)], narrowed := true }
def CamFollowsUptoSaid : Prop := camFollowsUptoRow.holds Tryz.pinned (OpenSpec.upto camFollowsSpec)

/-- 'tellurionlaw04.CamFoot', WHERE WHAT IT READS IS OF BULK AT MOST 1048576: true; the input reads as it did. -/
def camFootUptoRow : OpenClaim := { program := "ytncfgkhbenmpoaagreatdoor", sum := "6a6521b0cb665f56b0687dd9c3052b6253c10de3cd07d623111dbfc9576d80f4", func := "tellurion/tellurionlaw04.CamFoot", spec := "camFoot", inPlace := ["internal/abi.NoEscape", "internal/bytealg.MakeNoZero"], unfollowed := true, recurses := true, named := ["internal/strconv.uint64pow10", "math/bits.deBruijn32tab", "math/bits.deBruijn64tab"], plainKeys := false, apart := false, laid := [("math/bits.deBruijn32tab", laid_math_bits_deBruijn32tab), ("math/bits.deBruijn64tab", laid_math_bits_deBruijn64tab), ("internal/strconv.uint64pow10", laid_internal_strconv_uint64pow10)], narrowed := true }
def CamFootUptoSaid : Prop := camFootUptoRow.holds Tryz.pinned (OpenSpec.upto camFootSpec)

/-- 'tellurionlaw04.CamStations', WHERE WHAT IT READS IS OF BULK AT MOST 1048576: true; the input reads as it did. -/
def camStationsUptoRow : OpenClaim := { program := "ytncfgkhbenmpoaagreatdoor", sum := "6a6521b0cb665f56b0687dd9c3052b6253c10de3cd07d623111dbfc9576d80f4", func := "tellurion/tellurionlaw04.CamStations", spec := "camStations", inPlace := ["internal/abi.NoEscape", "internal/bytealg.MakeNoZero"], unfollowed := true, recurses := true, named := ["internal/strconv.uint64pow10", "math/bits.deBruijn32tab", "math/bits.deBruijn64tab"], plainKeys := false, apart := false, laid := [("math/bits.deBruijn32tab", laid_math_bits_deBruijn32tab), ("math/bits.deBruijn64tab", laid_math_bits_deBruijn64tab), ("internal/strconv.uint64pow10", laid_internal_strconv_uint64pow10)], narrowed := true }
def CamStationsUptoSaid : Prop := camStationsUptoRow.holds Tryz.pinned (OpenSpec.upto camStationsSpec)

/-- 'tellurionlaw04.CamRetreats', WHERE WHAT IT READS IS OF BULK AT MOST 1048576: true; the input reads as it did. -/
def camRetreatsUptoRow : OpenClaim := { program := "ytncfgkhbenmpoaagreatdoor", sum := "6a6521b0cb665f56b0687dd9c3052b6253c10de3cd07d623111dbfc9576d80f4", func := "tellurion/tellurionlaw04.CamRetreats", spec := "camRetreats", inPlace := ["internal/abi.NoEscape", "internal/bytealg.MakeNoZero"], unfollowed := true, recurses := true, named := ["internal/strconv.uint64pow10", "math/bits.deBruijn32tab", "math/bits.deBruijn64tab"], plainKeys := false, apart := false, laid := [("math/bits.deBruijn32tab", laid_math_bits_deBruijn32tab), ("math/bits.deBruijn64tab", laid_math_bits_deBruijn64tab), ("internal/strconv.uint64pow10", laid_internal_strconv_uint64pow10)], narrowed := true }
def CamRetreatsUptoSaid : Prop := camRetreatsUptoRow.holds Tryz.pinned (OpenSpec.upto camRetreatsSpec)

/-- 'tellurionlaw04.CamMore', WHERE WHAT IT READS IS OF BULK AT MOST 1048576: true; the input reads as it did. -/
def camMoreUptoRow : OpenClaim := { program := "ytncfgkhbenmpoaagreatdoor", sum := "6a6521b0cb665f56b0687dd9c3052b6253c10de3cd07d623111dbfc9576d80f4", func := "tellurion/tellurionlaw04.CamMore", spec := "camMore", inPlace := ["internal/abi.NoEscape", "internal/bytealg.MakeNoZero"], unfollowed := true, recurses := true, named := ["internal/strconv.uint64pow10", "math/bits.deBruijn32tab", "math/bits.deBruijn64tab"], plainKeys := false, apart := false, laid := [("math/bits.deBruijn32tab", laid_math_bits_deBruijn32tab), ("math/bits.deBruijn64tab", laid_math_bits_deBruijn64tab), ("internal/strconv.uint64pow10", laid_internal_strconv_uint64pow10)], narrowed := true }
def CamMoreUptoSaid : Prop := camMoreUptoRow.holds Tryz.pinned (OpenSpec.upto camMoreSpec)

/-- 'tellurionlaw04.CamPlaces', WHERE WHAT IT READS IS OF BULK AT MOST 1048576: true; the input reads as it did. -/
def camPlacesUptoRow : OpenClaim := { program := "ytncfgkhbenmpoaagreatdoor", sum := "6a6521b0cb665f56b0687dd9c3052b6253c10de3cd07d623111dbfc9576d80f4", func := "tellurion/tellurionlaw04.CamPlaces", spec := "camPlaces", inPlace := ["internal/abi.NoEscape", "internal/bytealg.MakeNoZero"], unfollowed := true, recurses := true, named := ["internal/strconv.uint64pow10", "math/bits.deBruijn32tab", "math/bits.deBruijn64tab"], plainKeys := false, apart := false, laid := [("math/bits.deBruijn32tab", laid_math_bits_deBruijn32tab), ("math/bits.deBruijn64tab", laid_math_bits_deBruijn64tab), ("internal/strconv.uint64pow10", laid_internal_strconv_uint64pow10)], narrowed := true }
def CamPlacesUptoSaid : Prop := camPlacesUptoRow.holds Tryz.pinned (OpenSpec.upto camPlacesSpec)

/-- 'tellurionlaw04.CamTurns', WHERE WHAT IT READS IS OF BULK AT MOST 1048576: true; the input reads as it did. -/
def camTurnsUptoRow : OpenClaim := { program := "ytncfgkhbenmpoaagreatdoor", sum := "6a6521b0cb665f56b0687dd9c3052b6253c10de3cd07d623111dbfc9576d80f4", func := "tellurion/tellurionlaw04.CamTurns", spec := "camTurns", inPlace := ["internal/abi.NoEscape", "internal/bytealg.MakeNoZero"], unfollowed := true, recurses := true, named := ["internal/strconv.uint64pow10", "math/bits.deBruijn32tab", "math/bits.deBruijn64tab"], plainKeys := false, apart := false, laid := [("math/bits.deBruijn32tab", laid_math_bits_deBruijn32tab), ("math/bits.deBruijn64tab", laid_math_bits_deBruijn64tab), ("internal/strconv.uint64pow10", laid_internal_strconv_uint64pow10)], narrowed := true }
def CamTurnsUptoSaid : Prop := camTurnsUptoRow.holds Tryz.pinned (OpenSpec.upto camTurnsSpec)

/-- 'tellurionlaw04.CamStood', WHERE WHAT IT READS IS OF BULK AT MOST 1048576: true; the input reads as it did. -/
def camStoodUptoRow : OpenClaim := { program := "ytncfgkhbenmpoaagreatdoor", sum := "6a6521b0cb665f56b0687dd9c3052b6253c10de3cd07d623111dbfc9576d80f4", func := "tellurion/tellurionlaw04.CamStood", spec := "camStood", inPlace := ["internal/abi.NoEscape", "internal/bytealg.MakeNoZero"], unfollowed := true, recurses := true, named := ["internal/strconv.uint64pow10", "math/bits.deBruijn32tab", "math/bits.deBruijn64tab"], plainKeys := false, apart := false, laid := [("math/bits.deBruijn32tab", laid_math_bits_deBruijn32tab), ("math/bits.deBruijn64tab", laid_math_bits_deBruijn64tab), ("internal/strconv.uint64pow10", laid_internal_strconv_uint64pow10)], narrowed := true }
def CamStoodUptoSaid : Prop := camStoodUptoRow.holds Tryz.pinned (OpenSpec.upto camStoodSpec)

/-- 'tellurionlaw04.CamBack', WHERE WHAT IT READS IS OF BULK AT MOST 1048576: true; the input reads as it did. -/
def camBackUptoRow : OpenClaim := { program := "ytncfgkhbenmpoaagreatdoor", sum := "6a6521b0cb665f56b0687dd9c3052b6253c10de3cd07d623111dbfc9576d80f4", func := "tellurion/tellurionlaw04.CamBack", spec := "camBack", inPlace := ["internal/abi.NoEscape", "internal/bytealg.MakeNoZero"], unfollowed := true, recurses := true, named := ["internal/strconv.uint64pow10", "math/bits.deBruijn32tab", "math/bits.deBruijn64tab"], plainKeys := false, apart := false, laid := [("math/bits.deBruijn32tab", laid_math_bits_deBruijn32tab), ("math/bits.deBruijn64tab", laid_math_bits_deBruijn64tab), ("internal/strconv.uint64pow10", laid_internal_strconv_uint64pow10)], narrowed := true }
def CamBackUptoSaid : Prop := camBackUptoRow.holds Tryz.pinned (OpenSpec.upto camBackSpec)

/-- 'tellurionlaw04.CamCarved', WHERE WHAT IT READS IS OF BULK AT MOST 1048576: true; the input reads as it did. -/
def camCarvedUptoRow : OpenClaim := { program := "ytncfgkhbenmpoaagreatdoor", sum := "6a6521b0cb665f56b0687dd9c3052b6253c10de3cd07d623111dbfc9576d80f4", func := "tellurion/tellurionlaw04.CamCarved", spec := "camCarved", inPlace := ["internal/abi.NoEscape", "internal/bytealg.MakeNoZero"], unfollowed := true, recurses := true, named := ["internal/strconv.uint64pow10", "math/bits.deBruijn32tab", "math/bits.deBruijn64tab"], plainKeys := false, apart := false, laid := [("math/bits.deBruijn32tab", laid_math_bits_deBruijn32tab), ("math/bits.deBruijn64tab", laid_math_bits_deBruijn64tab), ("internal/strconv.uint64pow10", laid_internal_strconv_uint64pow10)], narrowed := true }
def CamCarvedUptoSaid : Prop := camCarvedUptoRow.holds Tryz.pinned (OpenSpec.upto camCarvedSpec)

/-- 'tellurionlaw04.CamShifts', WHERE WHAT IT READS IS OF BULK AT MOST 1048576: true; the input reads as it did. -/
def camShiftsUptoRow : OpenClaim := { program := "ytncfgkhbenmpoaagreatdoor", sum := "6a6521b0cb665f56b0687dd9c3052b6253c10de3cd07d623111dbfc9576d80f4", func := "tellurion/tellurionlaw04.CamShifts", spec := "camShifts", inPlace := ["internal/abi.NoEscape", "internal/bytealg.MakeNoZero"], unfollowed := true, recurses := true, named := ["internal/strconv.uint64pow10", "math/bits.deBruijn32tab", "math/bits.deBruijn64tab"], plainKeys := false, apart := false, laid := [("math/bits.deBruijn32tab", laid_math_bits_deBruijn32tab), ("math/bits.deBruijn64tab", laid_math_bits_deBruijn64tab), ("internal/strconv.uint64pow10", laid_internal_strconv_uint64pow10)], narrowed := true }
def CamShiftsUptoSaid : Prop := camShiftsUptoRow.holds Tryz.pinned (OpenSpec.upto camShiftsSpec)

/-- 'tellurionlaw04.CamShifted', WHERE WHAT IT READS IS OF BULK AT MOST 1048576: true; the input reads as it did. -/
def camShiftedUptoRow : OpenClaim := { program := "ytncfgkhbenmpoaagreatdoor", sum := "6a6521b0cb665f56b0687dd9c3052b6253c10de3cd07d623111dbfc9576d80f4", func := "tellurion/tellurionlaw04.CamShifted", spec := "camShifted", inPlace := ["internal/abi.NoEscape", "internal/bytealg.MakeNoZero"], unfollowed := true, recurses := true, named := ["internal/strconv.uint64pow10", "math/bits.deBruijn32tab", "math/bits.deBruijn64tab"], plainKeys := false, apart := false, laid := [("math/bits.deBruijn32tab", laid_math_bits_deBruijn32tab), ("math/bits.deBruijn64tab", laid_math_bits_deBruijn64tab), ("internal/strconv.uint64pow10", laid_internal_strconv_uint64pow10)], narrowed := true }
def CamShiftedUptoSaid : Prop := camShiftedUptoRow.holds Tryz.pinned (OpenSpec.upto camShiftedSpec)

/-- 'tellurionlaw04.CamRivals', WHERE WHAT IT READS IS OF BULK AT MOST 1048576: true; the input reads as it did. -/
def camRivalsUptoRow : OpenClaim := { program := "ytncfgkhbenmpoaagreatdoor", sum := "6a6521b0cb665f56b0687dd9c3052b6253c10de3cd07d623111dbfc9576d80f4", func := "tellurion/tellurionlaw04.CamRivals", spec := "camRivals", inPlace := ["internal/abi.NoEscape", "internal/bytealg.MakeNoZero"], unfollowed := true, recurses := true, named := ["internal/strconv.uint64pow10", "math/bits.deBruijn32tab", "math/bits.deBruijn64tab"], plainKeys := false, apart := false, laid := [("math/bits.deBruijn32tab", laid_math_bits_deBruijn32tab), ("math/bits.deBruijn64tab", laid_math_bits_deBruijn64tab), ("internal/strconv.uint64pow10", laid_internal_strconv_uint64pow10)], narrowed := true }
def CamRivalsUptoSaid : Prop := camRivalsUptoRow.holds Tryz.pinned (OpenSpec.upto camRivalsSpec)

/-- 'tellurionlaw04.CamFitted', WHERE WHAT IT READS IS OF BULK AT MOST 1048576: true; the input reads as it did. -/
def camFittedUptoRow : OpenClaim := { program := "ytncfgkhbenmpoaagreatdoor", sum := "6a6521b0cb665f56b0687dd9c3052b6253c10de3cd07d623111dbfc9576d80f4", func := "tellurion/tellurionlaw04.CamFitted", spec := "camFitted", inPlace := ["internal/abi.NoEscape", "internal/bytealg.MakeNoZero"], unfollowed := true, recurses := true, named := ["internal/strconv.uint64pow10", "math/bits.deBruijn32tab", "math/bits.deBruijn64tab"], plainKeys := false, apart := false, laid := [("math/bits.deBruijn32tab", laid_math_bits_deBruijn32tab), ("math/bits.deBruijn64tab", laid_math_bits_deBruijn64tab), ("internal/strconv.uint64pow10", laid_internal_strconv_uint64pow10)], narrowed := true }
def CamFittedUptoSaid : Prop := camFittedUptoRow.holds Tryz.pinned (OpenSpec.upto camFittedSpec)

/-- 'tellurionlaw04.CamPrints', WHERE WHAT IT READS IS OF BULK AT MOST 1048576: true; the input reads as it did. -/
def camPrintsUptoRow : OpenClaim := { program := "ytncfgkhbenmpoaagreatdoor", sum := "6a6521b0cb665f56b0687dd9c3052b6253c10de3cd07d623111dbfc9576d80f4", func := "tellurion/tellurionlaw04.CamPrints", spec := "camPrints", inPlace := ["internal/abi.NoEscape", "internal/bytealg.MakeNoZero", "internal/bytealg.CountString", "internal/bytealg.IndexByteString", "internal/bytealg.IndexString"], unfollowed := true, recurses := true, named := ["internal/strconv.uint64pow10", "math/bits.deBruijn32tab", "math/bits.deBruijn64tab", "unicode/utf8.first", "unicode/utf8.acceptRanges", "internal/bytealg.MaxLen"], plainKeys := false, apart := false, laid := [("math/bits.deBruijn32tab", laid_math_bits_deBruijn32tab), ("math/bits.deBruijn64tab", laid_math_bits_deBruijn64tab), ("internal/strconv.uint64pow10", laid_internal_strconv_uint64pow10), ("unicode/utf8.acceptRanges", laid_unicode_utf8_acceptRanges), ("unicode/utf8.first", laid_unicode_utf8_first)], narrowed := true }
def CamPrintsUptoSaid : Prop := camPrintsUptoRow.holds Tryz.pinned (OpenSpec.upto camPrintsSpec)

/-- 'tellurionlaw04.CamReads', WHERE WHAT IT READS IS OF BULK AT MOST 1048576: true; the input reads as it did. -/
def camReadsUptoRow : OpenClaim := { program := "ytncfgkhbenmpoaagreatdoor", sum := "6a6521b0cb665f56b0687dd9c3052b6253c10de3cd07d623111dbfc9576d80f4", func := "tellurion/tellurionlaw04.CamReads", spec := "camReads", inPlace := ["internal/abi.NoEscape", "internal/bytealg.MakeNoZero", "internal/bytealg.CountString", "internal/bytealg.IndexByteString", "internal/bytealg.IndexString"], unfollowed := true, recurses := true, named := ["internal/strconv.uint64pow10", "math/bits.deBruijn32tab", "math/bits.deBruijn64tab", "unicode/utf8.first", "unicode/utf8.acceptRanges", "internal/bytealg.MaxLen"], plainKeys := false, apart := false, laid := [("math/bits.deBruijn32tab", laid_math_bits_deBruijn32tab), ("math/bits.deBruijn64tab", laid_math_bits_deBruijn64tab), ("internal/strconv.uint64pow10", laid_internal_strconv_uint64pow10), ("unicode/utf8.acceptRanges", laid_unicode_utf8_acceptRanges), ("unicode/utf8.first", laid_unicode_utf8_first)], narrowed := true }
def CamReadsUptoSaid : Prop := camReadsUptoRow.holds Tryz.pinned (OpenSpec.upto camReadsSpec)

/-- 'tellurionlaw04.CamSpoilt', WHERE WHAT IT READS IS OF BULK AT MOST 1048576: true; the input reads as it did. -/
def camSpoiltUptoRow : OpenClaim := { program := "ytncfgkhbenmpoaagreatdoor", sum := "6a6521b0cb665f56b0687dd9c3052b6253c10de3cd07d623111dbfc9576d80f4", func := "tellurion/tellurionlaw04.CamSpoilt", spec := "camSpoilt", inPlace := ["internal/abi.NoEscape", "internal/bytealg.MakeNoZero", "internal/bytealg.CountString", "internal/bytealg.IndexByteString", "internal/bytealg.IndexString"], unfollowed := true, recurses := true, named := ["internal/strconv.uint64pow10", "math/bits.deBruijn32tab", "math/bits.deBruijn64tab", "unicode/utf8.first", "unicode/utf8.acceptRanges", "internal/bytealg.MaxLen"], plainKeys := false, apart := false, laid := [("math/bits.deBruijn32tab", laid_math_bits_deBruijn32tab), ("math/bits.deBruijn64tab", laid_math_bits_deBruijn64tab), ("internal/strconv.uint64pow10", laid_internal_strconv_uint64pow10), ("unicode/utf8.acceptRanges", laid_unicode_utf8_acceptRanges), ("unicode/utf8.first", laid_unicode_utf8_first)], narrowed := true }
def CamSpoiltUptoSaid : Prop := camSpoiltUptoRow.holds Tryz.pinned (OpenSpec.upto camSpoiltSpec)

end Rows
end Go.Proofs.YtncfgkhbenmpoaaGreatDoor
