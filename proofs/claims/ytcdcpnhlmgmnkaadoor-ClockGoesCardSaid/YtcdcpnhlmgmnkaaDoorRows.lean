/-
  NARROWER THAN 'FOR EVERY INPUT', by the rows' own cells (each row's printed sentence says how): ClockTells: laid · ClockGoes: laid · ClockWhen: laid · ClockStays: laid · OddsDraws: laid · OddsSets: laid · OddsSums: laid · OddsOrder: laid · OddsTells: laid · OddsNot: laid.
  DERIVED. THE GIVEN ROWS OF THIS SEAT. 10 by the template 'for every input the law returns true; each argument reads behind the call as it read before'; 0 by the template 'total and deterministic' (their statements: YtcdcpnhlmgmnkaaDoorTotals.lean).
  GIVEN WITH THE SEED: the statements are not yours to turn. If you find one false, say at which input.
  Laid BY PROGRAM, IN A SANDBOX (cutbox-rows.mjs): the forced cells as the released guide's own fill.sh prints them over the translation f230c6b155b067d3… (all of the seat's roots in one cut). By AI agents, Wed Nov 11 2026. No macro, syntax, notation, axiom, sorry.
-/
import Derived.Test.YtcdcpnhlmgmnkaaDoorChecked
import GoSem.Claim
import GoSem.ClaimJoined
import GoSem.ClaimMapViews
import Derived.JoinedTies
import Derived.KernelRfl
namespace Go.Proofs.YtcdcpnhlmgmnkaaDoor
/- THE CELL 'sum', in the pinned program and in every row, IS THE sha256 OF THE DUMP (.gsa) THAT YtcdcpnhlmgmnkaaDoorProg.lean LOADS. Nothing in Lean hashes anything: it is a label: what it is worth is what the hold of that sum in a sandbox is worth. -/
noncomputable def Tryd.pinned : Pinned := { name := "ytcdcpnhlmgmnkaadoor", sum := "f230c6b155b067d36399b40b7acaebf3cfb2d1b4ffd85026818243193cd8b614", checked := Tryd.checked }
namespace Rows
def none {H : Type} : Left H := { results := [], args := [] }

/- WHAT THE LISTED PACKAGE-LEVEL VARIABLES READ AS WHEN THE CALL BEGINS. Each datum BY PROGRAM (the guide's laid-datum.mjs) off the statement by which the dump's own 'gosem.cut.vars' lays the variable. In a bare row this is a premise. The card (YtcdcpnhlmgmnkaaDoorCards.lean) ties it to the program's text. -/
def laid_math_bits_deBruijn32tab {H : Type} : DataW H := .agg [.lit (.int .u8 0), .lit (.int .u8 1), .lit (.int .u8 28), .lit (.int .u8 2), .lit (.int .u8 29), .lit (.int .u8 14), .lit (.int .u8 24), .lit (.int .u8 3), .lit (.int .u8 30), .lit (.int .u8 22), .lit (.int .u8 20), .lit (.int .u8 15), .lit (.int .u8 25), .lit (.int .u8 17), .lit (.int .u8 4), .lit (.int .u8 8), .lit (.int .u8 31), .lit (.int .u8 27), .lit (.int .u8 13), .lit (.int .u8 23), .lit (.int .u8 21), .lit (.int .u8 19), .lit (.int .u8 16), .lit (.int .u8 7), .lit (.int .u8 26), .lit (.int .u8 12), .lit (.int .u8 18), .lit (.int .u8 6), .lit (.int .u8 11), .lit (.int .u8 5), .lit (.int .u8 10), .lit (.int .u8 9)]
def laid_math_bits_deBruijn64tab {H : Type} : DataW H := .agg [.lit (.int .u8 0), .lit (.int .u8 1), .lit (.int .u8 56), .lit (.int .u8 2), .lit (.int .u8 57), .lit (.int .u8 49), .lit (.int .u8 28), .lit (.int .u8 3), .lit (.int .u8 61), .lit (.int .u8 58), .lit (.int .u8 42), .lit (.int .u8 50), .lit (.int .u8 38), .lit (.int .u8 29), .lit (.int .u8 17), .lit (.int .u8 4), .lit (.int .u8 62), .lit (.int .u8 47), .lit (.int .u8 59), .lit (.int .u8 36), .lit (.int .u8 45), .lit (.int .u8 43), .lit (.int .u8 51), .lit (.int .u8 22), .lit (.int .u8 53), .lit (.int .u8 39), .lit (.int .u8 33), .lit (.int .u8 30), .lit (.int .u8 24), .lit (.int .u8 18), .lit (.int .u8 12), .lit (.int .u8 5), .lit (.int .u8 63), .lit (.int .u8 55), .lit (.int .u8 48), .lit (.int .u8 27), .lit (.int .u8 60), .lit (.int .u8 41), .lit (.int .u8 37), .lit (.int .u8 16), .lit (.int .u8 46), .lit (.int .u8 35), .lit (.int .u8 44), .lit (.int .u8 21), .lit (.int .u8 52), .lit (.int .u8 32), .lit (.int .u8 23), .lit (.int .u8 11), .lit (.int .u8 54), .lit (.int .u8 26), .lit (.int .u8 40), .lit (.int .u8 15), .lit (.int .u8 34), .lit (.int .u8 20), .lit (.int .u8 31), .lit (.int .u8 10), .lit (.int .u8 25), .lit (.int .u8 14), .lit (.int .u8 19), .lit (.int .u8 9), .lit (.int .u8 13), .lit (.int .u8 8), .lit (.int .u8 7), .lit (.int .u8 6)]
def laid_internal_strconv_uint64pow10 {H : Type} : DataW H := .agg [.lit (.int .u64 1), .lit (.int .u64 10), .lit (.int .u64 100), .lit (.int .u64 1000), .lit (.int .u64 10000), .lit (.int .u64 100000), .lit (.int .u64 1000000), .lit (.int .u64 10000000), .lit (.int .u64 100000000), .lit (.int .u64 1000000000), .lit (.int .u64 10000000000), .lit (.int .u64 100000000000), .lit (.int .u64 1000000000000), .lit (.int .u64 10000000000000), .lit (.int .u64 100000000000000), .lit (.int .u64 1000000000000000), .lit (.int .u64 10000000000000000), .lit (.int .u64 100000000000000000), .lit (.int .u64 1000000000000000000), .lit (.int .u64 10000000000000000000)]

/-- 'joustlaw28.ClockTells': WHATEVER THE INPUT: true; the input reads as it did. -/
def clockTellsSpec : ChangeSpec := { name := "clockTells", fn := fun _ => fun
  | [d1, d2, d3, d4, d5, d6] => { results := [.lit (.bool true)], args := [d1, d2, d3, d4, d5, d6] }
  | _ => none }
def clockTellsRow : OpenClaim := { program := "ytcdcpnhlmgmnkaadoor", sum := "f230c6b155b067d36399b40b7acaebf3cfb2d1b4ffd85026818243193cd8b614", func := "joust/joustlaw28.ClockTells", spec := "clockTells", recurses := true, named := ["internal/strconv.uint64pow10", "math/bits.deBruijn32tab", "math/bits.deBruijn64tab"], apart := false, laid := [("math/bits.deBruijn32tab", laid_math_bits_deBruijn32tab), ("math/bits.deBruijn64tab", laid_math_bits_deBruijn64tab), ("internal/strconv.uint64pow10", laid_internal_strconv_uint64pow10)] }
def ClockTellsSaid : Prop := clockTellsRow.holds Tryd.pinned (OpenSpec.ofChange clockTellsSpec)

/-- ITS FALSE NEIGHBOUR: 'it returns false'. Refute it at one input. -/
def clockTellsWrong : ChangeSpec := { name := "clockTells", fn := fun _ => fun
  | [d1, d2, d3, d4, d5, d6] => { results := [.lit (.bool false)], args := [d1, d2, d3, d4, d5, d6] }
  | _ => none }
def ClockTellsWrongFalsely : Prop := clockTellsRow.holds Tryd.pinned (OpenSpec.ofChange clockTellsWrong)

/-- 'joustlaw28.ClockGoes': WHATEVER THE INPUT: true; the input reads as it did. -/
def clockGoesSpec : ChangeSpec := { name := "clockGoes", fn := fun _ => fun
  | [d1, d2, d3, d4] => { results := [.lit (.bool true)], args := [d1, d2, d3, d4] }
  | _ => none }
def clockGoesRow : OpenClaim := { program := "ytcdcpnhlmgmnkaadoor", sum := "f230c6b155b067d36399b40b7acaebf3cfb2d1b4ffd85026818243193cd8b614", func := "joust/joustlaw28.ClockGoes", spec := "clockGoes", named := ["internal/strconv.uint64pow10", "math/bits.deBruijn32tab", "math/bits.deBruijn64tab"], apart := false, laid := [("math/bits.deBruijn32tab", laid_math_bits_deBruijn32tab), ("math/bits.deBruijn64tab", laid_math_bits_deBruijn64tab), ("internal/strconv.uint64pow10", laid_internal_strconv_uint64pow10)] }
def ClockGoesSaid : Prop := clockGoesRow.holds Tryd.pinned (OpenSpec.ofChange clockGoesSpec)

/-- ITS FALSE NEIGHBOUR: 'it returns false'. Refute it at one input. -/
def clockGoesWrong : ChangeSpec := { name := "clockGoes", fn := fun _ => fun
  | [d1, d2, d3, d4] => { results := [.lit (.bool false)], args := [d1, d2, d3, d4] }
  | _ => none }
def ClockGoesWrongFalsely : Prop := clockGoesRow.holds Tryd.pinned (OpenSpec.ofChange clockGoesWrong)

/-- 'joustlaw28.ClockWhen': WHATEVER THE INPUT: true; the input reads as it did. -/
def clockWhenSpec : ChangeSpec := { name := "clockWhen", fn := fun _ => fun
  | [d1, d2] => { results := [.lit (.bool true)], args := [d1, d2] }
  | _ => none }
def clockWhenRow : OpenClaim := { program := "ytcdcpnhlmgmnkaadoor", sum := "f230c6b155b067d36399b40b7acaebf3cfb2d1b4ffd85026818243193cd8b614", func := "joust/joustlaw28.ClockWhen", spec := "clockWhen", named := ["internal/strconv.uint64pow10", "math/bits.deBruijn32tab", "math/bits.deBruijn64tab"], apart := false, laid := [("math/bits.deBruijn32tab", laid_math_bits_deBruijn32tab), ("math/bits.deBruijn64tab", laid_math_bits_deBruijn64tab), ("internal/strconv.uint64pow10", laid_internal_strconv_uint64pow10)] }
def ClockWhenSaid : Prop := clockWhenRow.holds Tryd.pinned (OpenSpec.ofChange clockWhenSpec)

/-- ITS FALSE NEIGHBOUR: 'it returns false'. Refute it at one input. -/
def clockWhenWrong : ChangeSpec := { name := "clockWhen", fn := fun _ => fun
  | [d1, d2] => { results := [.lit (.bool false)], args := [d1, d2] }
  | _ => none }
def ClockWhenWrongFalsely : Prop := clockWhenRow.holds Tryd.pinned (OpenSpec.ofChange clockWhenWrong)

/-- 'joustlaw28.ClockStays': WHATEVER THE INPUT: true; the input reads as it did. -/
def clockStaysSpec : ChangeSpec := { name := "clockStays", fn := fun _ => fun
  | [d1, d2, d3] => { results := [.lit (.bool true)], args := [d1, d2, d3] }
  | _ => none }
def clockStaysRow : OpenClaim := { program := "ytcdcpnhlmgmnkaadoor", sum := "f230c6b155b067d36399b40b7acaebf3cfb2d1b4ffd85026818243193cd8b614", func := "joust/joustlaw28.ClockStays", spec := "clockStays", named := ["internal/strconv.uint64pow10", "math/bits.deBruijn32tab", "math/bits.deBruijn64tab"], apart := false, laid := [("math/bits.deBruijn32tab", laid_math_bits_deBruijn32tab), ("math/bits.deBruijn64tab", laid_math_bits_deBruijn64tab), ("internal/strconv.uint64pow10", laid_internal_strconv_uint64pow10)] }
def ClockStaysSaid : Prop := clockStaysRow.holds Tryd.pinned (OpenSpec.ofChange clockStaysSpec)

/-- ITS FALSE NEIGHBOUR: 'it returns false'. Refute it at one input. -/
def clockStaysWrong : ChangeSpec := { name := "clockStays", fn := fun _ => fun
  | [d1, d2, d3] => { results := [.lit (.bool false)], args := [d1, d2, d3] }
  | _ => none }
def ClockStaysWrongFalsely : Prop := clockStaysRow.holds Tryd.pinned (OpenSpec.ofChange clockStaysWrong)

/-- 'joustlaw32.OddsDraws': WHATEVER THE INPUT: true; the input reads as it did. -/
def oddsDrawsSpec : ChangeSpec := { name := "oddsDraws", fn := fun _ => fun
  | [d1, d2, d3, d4, d5, d6] => { results := [.lit (.bool true)], args := [d1, d2, d3, d4, d5, d6] }
  | _ => none }
def oddsDrawsRow : OpenClaim := { program := "ytcdcpnhlmgmnkaadoor", sum := "f230c6b155b067d36399b40b7acaebf3cfb2d1b4ffd85026818243193cd8b614", func := "joust/joustlaw32.OddsDraws", spec := "oddsDraws", named := ["math/bits.divideError", "math/bits.overflowError", "internal/strconv.uint64pow10", "math/bits.deBruijn32tab", "math/bits.deBruijn64tab"], apart := false, laid := [("math/bits.deBruijn32tab", laid_math_bits_deBruijn32tab), ("math/bits.deBruijn64tab", laid_math_bits_deBruijn64tab), ("internal/strconv.uint64pow10", laid_internal_strconv_uint64pow10)] }
def OddsDrawsSaid : Prop := oddsDrawsRow.holds Tryd.pinned (OpenSpec.ofChange oddsDrawsSpec)

/-- ITS FALSE NEIGHBOUR: 'it returns false'. Refute it at one input. -/
def oddsDrawsWrong : ChangeSpec := { name := "oddsDraws", fn := fun _ => fun
  | [d1, d2, d3, d4, d5, d6] => { results := [.lit (.bool false)], args := [d1, d2, d3, d4, d5, d6] }
  | _ => none }
def OddsDrawsWrongFalsely : Prop := oddsDrawsRow.holds Tryd.pinned (OpenSpec.ofChange oddsDrawsWrong)

/-- 'joustlaw32.OddsSets': WHATEVER THE INPUT: true; the input reads as it did. -/
def oddsSetsSpec : ChangeSpec := { name := "oddsSets", fn := fun _ => fun
  | [d1, d2] => { results := [.lit (.bool true)], args := [d1, d2] }
  | _ => none }
def oddsSetsRow : OpenClaim := { program := "ytcdcpnhlmgmnkaadoor", sum := "f230c6b155b067d36399b40b7acaebf3cfb2d1b4ffd85026818243193cd8b614", func := "joust/joustlaw32.OddsSets", spec := "oddsSets", named := ["math/bits.divideError", "math/bits.overflowError", "internal/strconv.uint64pow10", "math/bits.deBruijn32tab", "math/bits.deBruijn64tab"], apart := false, laid := [("math/bits.deBruijn32tab", laid_math_bits_deBruijn32tab), ("math/bits.deBruijn64tab", laid_math_bits_deBruijn64tab), ("internal/strconv.uint64pow10", laid_internal_strconv_uint64pow10)] }
def OddsSetsSaid : Prop := oddsSetsRow.holds Tryd.pinned (OpenSpec.ofChange oddsSetsSpec)

/-- ITS FALSE NEIGHBOUR: 'it returns false'. Refute it at one input. -/
def oddsSetsWrong : ChangeSpec := { name := "oddsSets", fn := fun _ => fun
  | [d1, d2] => { results := [.lit (.bool false)], args := [d1, d2] }
  | _ => none }
def OddsSetsWrongFalsely : Prop := oddsSetsRow.holds Tryd.pinned (OpenSpec.ofChange oddsSetsWrong)

/-- 'joustlaw32.OddsSums': WHATEVER THE INPUT: true; the input reads as it did. -/
def oddsSumsSpec : ChangeSpec := { name := "oddsSums", fn := fun _ => fun
  | [d1, d2, d3, d4] => { results := [.lit (.bool true)], args := [d1, d2, d3, d4] }
  | _ => none }
def oddsSumsRow : OpenClaim := { program := "ytcdcpnhlmgmnkaadoor", sum := "f230c6b155b067d36399b40b7acaebf3cfb2d1b4ffd85026818243193cd8b614", func := "joust/joustlaw32.OddsSums", spec := "oddsSums", inPlace := ["math/bits.Add64"], named := ["math/bits.divideError", "math/bits.overflowError", "internal/strconv.uint64pow10", "math/bits.deBruijn32tab", "math/bits.deBruijn64tab"], apart := false, laid := [("math/bits.deBruijn32tab", laid_math_bits_deBruijn32tab), ("math/bits.deBruijn64tab", laid_math_bits_deBruijn64tab), ("internal/strconv.uint64pow10", laid_internal_strconv_uint64pow10)] }
def OddsSumsSaid : Prop := oddsSumsRow.holds Tryd.pinned (OpenSpec.ofChange oddsSumsSpec)

/-- ITS FALSE NEIGHBOUR: 'it returns false'. Refute it at one input. -/
def oddsSumsWrong : ChangeSpec := { name := "oddsSums", fn := fun _ => fun
  | [d1, d2, d3, d4] => { results := [.lit (.bool false)], args := [d1, d2, d3, d4] }
  | _ => none }
def OddsSumsWrongFalsely : Prop := oddsSumsRow.holds Tryd.pinned (OpenSpec.ofChange oddsSumsWrong)

/-- 'joustlaw32.OddsOrder': WHATEVER THE INPUT: true; the input reads as it did. -/
def oddsOrderSpec : ChangeSpec := { name := "oddsOrder", fn := fun _ => fun
  | [d1, d2, d3] => { results := [.lit (.bool true)], args := [d1, d2, d3] }
  | _ => none }
def oddsOrderRow : OpenClaim := { program := "ytcdcpnhlmgmnkaadoor", sum := "f230c6b155b067d36399b40b7acaebf3cfb2d1b4ffd85026818243193cd8b614", func := "joust/joustlaw32.OddsOrder", spec := "oddsOrder", inPlace := ["math/bits.Add64"], named := ["math/bits.divideError", "math/bits.overflowError", "internal/strconv.uint64pow10", "math/bits.deBruijn32tab", "math/bits.deBruijn64tab"], apart := false, laid := [("math/bits.deBruijn32tab", laid_math_bits_deBruijn32tab), ("math/bits.deBruijn64tab", laid_math_bits_deBruijn64tab), ("internal/strconv.uint64pow10", laid_internal_strconv_uint64pow10)] }
def OddsOrderSaid : Prop := oddsOrderRow.holds Tryd.pinned (OpenSpec.ofChange oddsOrderSpec)

/-- ITS FALSE NEIGHBOUR: 'it returns false'. Refute it at one input. -/
def oddsOrderWrong : ChangeSpec := { name := "oddsOrder", fn := fun _ => fun
  | [d1, d2, d3] => { results := [.lit (.bool false)], args := [d1, d2, d3] }
  | _ => none }
def OddsOrderWrongFalsely : Prop := oddsOrderRow.holds Tryd.pinned (OpenSpec.ofChange oddsOrderWrong)

/-- 'joustlaw32.OddsTells': WHATEVER THE INPUT: true; the input reads as it did. -/
def oddsTellsSpec : ChangeSpec := { name := "oddsTells", fn := fun _ => fun
  | [d1, d2, d3, d4, d5, d6] => { results := [.lit (.bool true)], args := [d1, d2, d3, d4, d5, d6] }
  | _ => none }
def oddsTellsRow : OpenClaim := { program := "ytcdcpnhlmgmnkaadoor", sum := "f230c6b155b067d36399b40b7acaebf3cfb2d1b4ffd85026818243193cd8b614", func := "joust/joustlaw32.OddsTells", spec := "oddsTells", inPlace := ["math/bits.Add64"], recurses := true, named := ["math/bits.divideError", "math/bits.overflowError", "internal/strconv.uint64pow10", "math/bits.deBruijn32tab", "math/bits.deBruijn64tab"], apart := false, laid := [("math/bits.deBruijn32tab", laid_math_bits_deBruijn32tab), ("math/bits.deBruijn64tab", laid_math_bits_deBruijn64tab), ("internal/strconv.uint64pow10", laid_internal_strconv_uint64pow10)] }
def OddsTellsSaid : Prop := oddsTellsRow.holds Tryd.pinned (OpenSpec.ofChange oddsTellsSpec)

/-- ITS FALSE NEIGHBOUR: 'it returns false'. Refute it at one input. -/
def oddsTellsWrong : ChangeSpec := { name := "oddsTells", fn := fun _ => fun
  | [d1, d2, d3, d4, d5, d6] => { results := [.lit (.bool false)], args := [d1, d2, d3, d4, d5, d6] }
  | _ => none }
def OddsTellsWrongFalsely : Prop := oddsTellsRow.holds Tryd.pinned (OpenSpec.ofChange oddsTellsWrong)

/-- 'joustlaw32.OddsNot': WHATEVER THE INPUT: true; the input reads as it did. -/
def oddsNotSpec : ChangeSpec := { name := "oddsNot", fn := fun _ => fun
  | [d1, d2] => { results := [.lit (.bool true)], args := [d1, d2] }
  | _ => none }
def oddsNotRow : OpenClaim := { program := "ytcdcpnhlmgmnkaadoor", sum := "f230c6b155b067d36399b40b7acaebf3cfb2d1b4ffd85026818243193cd8b614", func := "joust/joustlaw32.OddsNot", spec := "oddsNot", inPlace := ["math/bits.Add64"], named := ["math/bits.divideError", "math/bits.overflowError", "internal/strconv.uint64pow10", "math/bits.deBruijn32tab", "math/bits.deBruijn64tab"], apart := false, laid := [("math/bits.deBruijn32tab", laid_math_bits_deBruijn32tab), ("math/bits.deBruijn64tab", laid_math_bits_deBruijn64tab), ("internal/strconv.uint64pow10", laid_internal_strconv_uint64pow10)] }
def OddsNotSaid : Prop := oddsNotRow.holds Tryd.pinned (OpenSpec.ofChange oddsNotSpec)

/-- ITS FALSE NEIGHBOUR: 'it returns false'. Refute it at one input. -/
def oddsNotWrong : ChangeSpec := { name := "oddsNot", fn := fun _ => fun
  | [d1, d2] => { results := [.lit (.bool false)], args := [d1, d2] }
  | _ => none }
def OddsNotWrongFalsely : Prop := oddsNotRow.holds Tryd.pinned (OpenSpec.ofChange oddsNotWrong)

/- THE SECOND FORM. 'bulk': how many values and letters a reading holds, each counted each time it is reached (what is shared counts as often as it is met; a slice's spare places count too). A statement '..UptoSaid' is the law's where the arguments, and the package variables that the reading takes, are together of bulk at most 1048576: NARROWER than '..Said'. Prove '..Said' where nothing that the law and all that it calls make is longer than what came in: it says more and counts as full. Else prove '..UptoSaid'. A law counts once. -/
mutual
def uptoBulk {H : Type} : DataW H → Nat
  | .lit (.string bytes) => bytes.length + 1
  | .lit _ => 1
  | .nil => 1
  | .ptr d => uptoBulk d + 1
  | .slice elems spare => uptoBulkAll elems + uptoBulkAll spare + 1
  | .agg parts => uptoBulkAll parts + 1
  | .iface _ d => uptoBulk d + 1
  | .map entries => uptoBulkEntries entries + 1
  | .held _ => 1
def uptoBulkAll {H : Type} : List (DataW H) → Nat
  | [] => 0
  | d :: r => uptoBulk d + uptoBulkAll r
def uptoBulkEntries {H : Type} : List (Lit × DataW H) → Nat
  | [] => 0
  | x :: r => uptoBulkEntry x + uptoBulkEntries r
def uptoBulkEntry {H : Type} : Lit × DataW H → Nat
  | (.string bytes, d) => bytes.length + uptoBulk d + 1
  | (_, d) => uptoBulk d + 1
 end
def uptoSmall : (H : Type) → List (DataW H) → Bool := fun _ ds => decide (uptoBulkAll ds ≤ 1048576)
def OpenSpec.upto (s : _root_.Go.ChangeSpec) : _root_.Go.OpenSpec := { _root_.Go.OpenSpec.ofChange s with cond := some uptoSmall }

/-- 'joustlaw28.ClockTells', WHERE WHAT IT READS IS OF BULK AT MOST 1048576: true; the input reads as it did. -/
def clockTellsUptoRow : OpenClaim := { program := "ytcdcpnhlmgmnkaadoor", sum := "f230c6b155b067d36399b40b7acaebf3cfb2d1b4ffd85026818243193cd8b614", func := "joust/joustlaw28.ClockTells", spec := "clockTells", recurses := true, named := ["internal/strconv.uint64pow10", "math/bits.deBruijn32tab", "math/bits.deBruijn64tab"], apart := false, laid := [("math/bits.deBruijn32tab", laid_math_bits_deBruijn32tab), ("math/bits.deBruijn64tab", laid_math_bits_deBruijn64tab), ("internal/strconv.uint64pow10", laid_internal_strconv_uint64pow10)], narrowed := true }
def ClockTellsUptoSaid : Prop := clockTellsUptoRow.holds Tryd.pinned (OpenSpec.upto clockTellsSpec)

/-- 'joustlaw28.ClockGoes', WHERE WHAT IT READS IS OF BULK AT MOST 1048576: true; the input reads as it did. -/
def clockGoesUptoRow : OpenClaim := { program := "ytcdcpnhlmgmnkaadoor", sum := "f230c6b155b067d36399b40b7acaebf3cfb2d1b4ffd85026818243193cd8b614", func := "joust/joustlaw28.ClockGoes", spec := "clockGoes", named := ["internal/strconv.uint64pow10", "math/bits.deBruijn32tab", "math/bits.deBruijn64tab"], apart := false, laid := [("math/bits.deBruijn32tab", laid_math_bits_deBruijn32tab), ("math/bits.deBruijn64tab", laid_math_bits_deBruijn64tab), ("internal/strconv.uint64pow10", laid_internal_strconv_uint64pow10)], narrowed := true }
def ClockGoesUptoSaid : Prop := clockGoesUptoRow.holds Tryd.pinned (OpenSpec.upto clockGoesSpec)

/-- 'joustlaw28.ClockWhen', WHERE WHAT IT READS IS OF BULK AT MOST 1048576: true; the input reads as it did. -/
def clockWhenUptoRow : OpenClaim := { program := "ytcdcpnhlmgmnkaadoor", sum := "f230c6b155b067d36399b40b7acaebf3cfb2d1b4ffd85026818243193cd8b614", func := "joust/joustlaw28.ClockWhen", spec := "clockWhen", named := ["internal/strconv.uint64pow10", "math/bits.deBruijn32tab", "math/bits.deBruijn64tab"], apart := false, laid := [("math/bits.deBruijn32tab", laid_math_bits_deBruijn32tab), ("math/bits.deBruijn64tab", laid_math_bits_deBruijn64tab), ("internal/strconv.uint64pow10", laid_internal_strconv_uint64pow10)], narrowed := true }
def ClockWhenUptoSaid : Prop := clockWhenUptoRow.holds Tryd.pinned (OpenSpec.upto clockWhenSpec)

/-- 'joustlaw28.ClockStays', WHERE WHAT IT READS IS OF BULK AT MOST 1048576: true; the input reads as it did. -/
def clockStaysUptoRow : OpenClaim := { program := "ytcdcpnhlmgmnkaadoor", sum := "f230c6b155b067d36399b40b7acaebf3cfb2d1b4ffd85026818243193cd8b614", func := "joust/joustlaw28.ClockStays", spec := "clockStays", named := ["internal/strconv.uint64pow10", "math/bits.deBruijn32tab", "math/bits.deBruijn64tab"], apart := false, laid := [("math/bits.deBruijn32tab", laid_math_bits_deBruijn32tab), ("math/bits.deBruijn64tab", laid_math_bits_deBruijn64tab), ("internal/strconv.uint64pow10", laid_internal_strconv_uint64pow10)], narrowed := true }
def ClockStaysUptoSaid : Prop := clockStaysUptoRow.holds Tryd.pinned (OpenSpec.upto clockStaysSpec)

/-- 'joustlaw32.OddsDraws', WHERE WHAT IT READS IS OF BULK AT MOST 1048576: true; the input reads as it did. -/
def oddsDrawsUptoRow : OpenClaim := { program := "ytcdcpnhlmgmnkaadoor", sum := "f230c6b155b067d36399b40b7acaebf3cfb2d1b4ffd85026818243193cd8b614", func := "joust/joustlaw32.OddsDraws", spec := "oddsDraws", named := ["math/bits.divideError", "math/bits.overflowError", "internal/strconv.uint64pow10", "math/bits.deBruijn32tab", "math/bits.deBruijn64tab"], apart := false, laid := [("math/bits.deBruijn32tab", laid_math_bits_deBruijn32tab), ("math/bits.deBruijn64tab", laid_math_bits_deBruijn64tab), ("internal/strconv.uint64pow10", laid_internal_strconv_uint64pow10)], narrowed := true }
def OddsDrawsUptoSaid : Prop := oddsDrawsUptoRow.holds Tryd.pinned (OpenSpec.upto oddsDrawsSpec)

/-- 'joustlaw32.OddsSets', WHERE WHAT IT READS IS OF BULK AT MOST 1048576: true; the input reads as it did. -/
def oddsSetsUptoRow : OpenClaim := { program := "ytcdcpnhlmgmnkaadoor", sum := "f230c6b155b067d36399b40b7acaebf3cfb2d1b4ffd85026818243193cd8b614", func := "joust/joustlaw32.OddsSets", spec := "oddsSets", named := ["math/bits.divideError", "math/bits.overflowError", "internal/strconv.uint64pow10", "math/bits.deBruijn32tab", "math/bits.deBruijn64tab"], apart := false, laid := [("math/bits.deBruijn32tab", laid_math_bits_deBruijn32tab), ("math/bits.deBruijn64tab", laid_math_bits_deBruijn64tab), ("internal/strconv.uint64pow10", laid_internal_strconv_uint64pow10)], narrowed := true }
def OddsSetsUptoSaid : Prop := oddsSetsUptoRow.holds Tryd.pinned (OpenSpec.upto oddsSetsSpec)

/-- 'joustlaw32.OddsSums', WHERE WHAT IT READS IS OF BULK AT MOST 1048576: true; the input reads as it did. -/
def oddsSumsUptoRow : OpenClaim := { program := "ytcdcpnhlmgmnkaadoor", sum := "f230c6b155b067d36399b40b7acaebf3cfb2d1b4ffd85026818243193cd8b614", func := "joust/joustlaw32.OddsSums", spec := "oddsSums", inPlace := ["math/bits.Add64"], named := ["math/bits.divideError", "math/bits.overflowError", "internal/strconv.uint64pow10", "math/bits.deBruijn32tab", "math/bits.deBruijn64tab"], apart := false, laid := [("math/bits.deBruijn32tab", laid_math_bits_deBruijn32tab), ("math/bits.deBruijn64tab", laid_math_bits_deBruijn64tab), ("internal/strconv.uint64pow10", laid_internal_strconv_uint64pow10)], narrowed := true }
def OddsSumsUptoSaid : Prop := oddsSumsUptoRow.holds Tryd.pinned (OpenSpec.upto oddsSumsSpec)

/-- 'joustlaw32.OddsOrder', WHERE WHAT IT READS IS OF BULK AT MOST 1048576: true; the input reads as it did. -/
def oddsOrderUptoRow : OpenClaim := { program := "ytcdcpnhlmgmnkaadoor", sum := "f230c6b155b067d36399b40b7acaebf3cfb2d1b4ffd85026818243193cd8b614", func := "joust/joustlaw32.OddsOrder", spec := "oddsOrder", inPlace := ["math/bits.Add64"], named := ["math/bits.divideError", "math/bits.overflowError", "internal/strconv.uint64pow10", "math/bits.deBruijn32tab", "math/bits.deBruijn64tab"], apart := false, laid := [("math/bits.deBruijn32tab", laid_math_bits_deBruijn32tab), ("math/bits.deBruijn64tab", laid_math_bits_deBruijn64tab), ("internal/strconv.uint64pow10", laid_internal_strconv_uint64pow10)], narrowed := true }
def OddsOrderUptoSaid : Prop := oddsOrderUptoRow.holds Tryd.pinned (OpenSpec.upto oddsOrderSpec)

/-- 'joustlaw32.OddsTells', WHERE WHAT IT READS IS OF BULK AT MOST 1048576: true; the input reads as it did. -/
def oddsTellsUptoRow : OpenClaim := { program := "ytcdcpnhlmgmnkaadoor", sum := "f230c6b155b067d36399b40b7acaebf3cfb2d1b4ffd85026818243193cd8b614", func := "joust/joustlaw32.OddsTells", spec := "oddsTells", inPlace := ["math/bits.Add64"], recurses := true, named := ["math/bits.divideError", "math/bits.overflowError", "internal/strconv.uint64pow10", "math/bits.deBruijn32tab", "math/bits.deBruijn64tab"], apart := false, laid := [("math/bits.deBruijn32tab", laid_math_bits_deBruijn32tab), ("math/bits.deBruijn64tab", laid_math_bits_deBruijn64tab), ("internal/strconv.uint64pow10", laid_internal_strconv_uint64pow10)], narrowed := true }
def OddsTellsUptoSaid : Prop := oddsTellsUptoRow.holds Tryd.pinned (OpenSpec.upto oddsTellsSpec)

/-- 'joustlaw32.OddsNot', WHERE WHAT IT READS IS OF BULK AT MOST 1048576: true; the input reads as it did. -/
def oddsNotUptoRow : OpenClaim := { program := "ytcdcpnhlmgmnkaadoor", sum := "f230c6b155b067d36399b40b7acaebf3cfb2d1b4ffd85026818243193cd8b614", func := "joust/joustlaw32.OddsNot", spec := "oddsNot", inPlace := ["math/bits.Add64"], named := ["math/bits.divideError", "math/bits.overflowError", "internal/strconv.uint64pow10", "math/bits.deBruijn32tab", "math/bits.deBruijn64tab"], apart := false, laid := [("math/bits.deBruijn32tab", laid_math_bits_deBruijn32tab), ("math/bits.deBruijn64tab", laid_math_bits_deBruijn64tab), ("internal/strconv.uint64pow10", laid_internal_strconv_uint64pow10)], narrowed := true }
def OddsNotUptoSaid : Prop := oddsNotUptoRow.holds Tryd.pinned (OpenSpec.upto oddsNotSpec)

end Rows
end Go.Proofs.YtcdcpnhlmgmnkaaDoor
