/-
  NARROWER THAN 'FOR EVERY INPUT', by the rows' own cells (each row's printed sentence says how): MatchGrows: loops · MatchTells: loops · MightSides: loops · MightAuras: loops · MightTells: loops.
  DERIVED. THE GIVEN ROWS OF THIS SEAT. 12 by the template 'for every input the law returns true; each argument reads behind the call as it read before'; 0 by the template 'total and deterministic' (their statements: YtnceobnglofnmaaTotals.lean).
  GIVEN WITH THE SEED: the statements are not yours to turn. If you find one false, say at which input.
  Laid BY PROGRAM, IN A SANDBOX (cutbox-rows.mjs): the forced cells as the released guide's own fill.sh prints them over the translation 9b8f7c6da90a0ef0… (all of the seat's roots in one cut). By AI agents, Wed Nov 11 2026. No macro, syntax, notation, axiom, sorry.
-/
import Derived.Test.YtnceobnglofnmaaChecked
import GoSem.Claim
import GoSem.ClaimJoined
import GoSem.ClaimMapViews
import Derived.JoinedTies
import Derived.KernelRfl
namespace Go.Proofs.Ytnceobnglofnmaa
/- THE CELL 'sum', in the pinned program and in every row, IS THE sha256 OF THE DUMP (.gsa) THAT YtnceobnglofnmaaProg.lean LOADS. Nothing in Lean hashes anything: it is a label: what it is worth is what the hold of that sum in a sandbox is worth. -/
noncomputable def Try.pinned : Pinned := { name := "ytnceobnglofnmaa", sum := "9b8f7c6da90a0ef0557821b060331fba2b756cf3d92258f7b77e644102d19503", checked := Try.checked }
namespace Rows
def none {H : Type} : Left H := { results := [], args := [] }

/-- 'joustlaw11.MatchGrows': WHATEVER THE INPUT: true; the input reads as it did. -/
def matchGrowsSpec : ChangeSpec := { name := "matchGrows", fn := fun _ => fun
  | [d1, d2, d3, d4, d5, d6] => { results := [.lit (.bool true)], args := [d1, d2, d3, d4, d5, d6] }
  | _ => none }
def matchGrowsRow : OpenClaim := { program := "ytnceobnglofnmaa", sum := "9b8f7c6da90a0ef0557821b060331fba2b756cf3d92258f7b77e644102d19503", func := "joust/joustlaw11.MatchGrows", spec := "matchGrows", unfollowed := true, recurses := true, loops := true, plainKeys := false, apart := false }
def MatchGrowsSaid : Prop := matchGrowsRow.holds Try.pinned (OpenSpec.ofChange matchGrowsSpec)

/-- ITS FALSE NEIGHBOUR: 'it returns false'. Refute it at one input. -/
def matchGrowsWrong : ChangeSpec := { name := "matchGrows", fn := fun _ => fun
  | [d1, d2, d3, d4, d5, d6] => { results := [.lit (.bool false)], args := [d1, d2, d3, d4, d5, d6] }
  | _ => none }
def MatchGrowsWrongFalsely : Prop := matchGrowsRow.holds Try.pinned (OpenSpec.ofChange matchGrowsWrong)

/-- 'joustlaw11.MatchTells': WHATEVER THE INPUT: true; the input reads as it did. -/
def matchTellsSpec : ChangeSpec := { name := "matchTells", fn := fun _ => fun
  | [d1, d2, d3, d4, d5, d6] => { results := [.lit (.bool true)], args := [d1, d2, d3, d4, d5, d6] }
  | _ => none }
def matchTellsRow : OpenClaim := { program := "ytnceobnglofnmaa", sum := "9b8f7c6da90a0ef0557821b060331fba2b756cf3d92258f7b77e644102d19503", func := "joust/joustlaw11.MatchTells", spec := "matchTells", unfollowed := true, recurses := true, loops := true, plainKeys := false, apart := false }
def MatchTellsSaid : Prop := matchTellsRow.holds Try.pinned (OpenSpec.ofChange matchTellsSpec)

/-- ITS FALSE NEIGHBOUR: 'it returns false'. Refute it at one input. -/
def matchTellsWrong : ChangeSpec := { name := "matchTells", fn := fun _ => fun
  | [d1, d2, d3, d4, d5, d6] => { results := [.lit (.bool false)], args := [d1, d2, d3, d4, d5, d6] }
  | _ => none }
def MatchTellsWrongFalsely : Prop := matchTellsRow.holds Try.pinned (OpenSpec.ofChange matchTellsWrong)

/-- 'joustlaw07.MightSides': WHATEVER THE INPUT: true; the input reads as it did. -/
def mightSidesSpec : ChangeSpec := { name := "mightSides", fn := fun _ => fun
  | [d1, d2, d3, d4, d5, d6] => { results := [.lit (.bool true)], args := [d1, d2, d3, d4, d5, d6] }
  | _ => none }
def mightSidesRow : OpenClaim := { program := "ytnceobnglofnmaa", sum := "9b8f7c6da90a0ef0557821b060331fba2b756cf3d92258f7b77e644102d19503", func := "joust/joustlaw07.MightSides", spec := "mightSides", unfollowed := true, recurses := true, loops := true, plainKeys := false, apart := false }
def MightSidesSaid : Prop := mightSidesRow.holds Try.pinned (OpenSpec.ofChange mightSidesSpec)

/-- ITS FALSE NEIGHBOUR: 'it returns false'. Refute it at one input. -/
def mightSidesWrong : ChangeSpec := { name := "mightSides", fn := fun _ => fun
  | [d1, d2, d3, d4, d5, d6] => { results := [.lit (.bool false)], args := [d1, d2, d3, d4, d5, d6] }
  | _ => none }
def MightSidesWrongFalsely : Prop := mightSidesRow.holds Try.pinned (OpenSpec.ofChange mightSidesWrong)

/-- 'joustlaw07.MightAuras': WHATEVER THE INPUT: true; the input reads as it did. -/
def mightAurasSpec : ChangeSpec := { name := "mightAuras", fn := fun _ => fun
  | [d1, d2, d3] => { results := [.lit (.bool true)], args := [d1, d2, d3] }
  | _ => none }
def mightAurasRow : OpenClaim := { program := "ytnceobnglofnmaa", sum := "9b8f7c6da90a0ef0557821b060331fba2b756cf3d92258f7b77e644102d19503", func := "joust/joustlaw07.MightAuras", spec := "mightAuras", unfollowed := true, recurses := true, loops := true, plainKeys := false, apart := false }
def MightAurasSaid : Prop := mightAurasRow.holds Try.pinned (OpenSpec.ofChange mightAurasSpec)

/-- ITS FALSE NEIGHBOUR: 'it returns false'. Refute it at one input. -/
def mightAurasWrong : ChangeSpec := { name := "mightAuras", fn := fun _ => fun
  | [d1, d2, d3] => { results := [.lit (.bool false)], args := [d1, d2, d3] }
  | _ => none }
def MightAurasWrongFalsely : Prop := mightAurasRow.holds Try.pinned (OpenSpec.ofChange mightAurasWrong)

/-- 'joustlaw07.MightTells': WHATEVER THE INPUT: true; the input reads as it did. -/
def mightTellsSpec : ChangeSpec := { name := "mightTells", fn := fun _ => fun
  | [d1, d2, d3, d4, d5] => { results := [.lit (.bool true)], args := [d1, d2, d3, d4, d5] }
  | _ => none }
def mightTellsRow : OpenClaim := { program := "ytnceobnglofnmaa", sum := "9b8f7c6da90a0ef0557821b060331fba2b756cf3d92258f7b77e644102d19503", func := "joust/joustlaw07.MightTells", spec := "mightTells", unfollowed := true, recurses := true, loops := true, plainKeys := false, apart := false }
def MightTellsSaid : Prop := mightTellsRow.holds Try.pinned (OpenSpec.ofChange mightTellsSpec)

/-- ITS FALSE NEIGHBOUR: 'it returns false'. Refute it at one input. -/
def mightTellsWrong : ChangeSpec := { name := "mightTells", fn := fun _ => fun
  | [d1, d2, d3, d4, d5] => { results := [.lit (.bool false)], args := [d1, d2, d3, d4, d5] }
  | _ => none }
def MightTellsWrongFalsely : Prop := mightTellsRow.holds Try.pinned (OpenSpec.ofChange mightTellsWrong)

/-- 'joustlaw27.MixBack': WHATEVER THE INPUT: true; the input reads as it did. -/
def mixBackSpec : ChangeSpec := { name := "mixBack", fn := fun _ => fun
  | [d1, d2, d3] => { results := [.lit (.bool true)], args := [d1, d2, d3] }
  | _ => none }
def mixBackRow : OpenClaim := { program := "ytnceobnglofnmaa", sum := "9b8f7c6da90a0ef0557821b060331fba2b756cf3d92258f7b77e644102d19503", func := "joust/joustlaw27.MixBack", spec := "mixBack", unfollowed := true, recurses := true, plainKeys := false, apart := false }
def MixBackSaid : Prop := mixBackRow.holds Try.pinned (OpenSpec.ofChange mixBackSpec)

/-- ITS FALSE NEIGHBOUR: 'it returns false'. Refute it at one input. -/
def mixBackWrong : ChangeSpec := { name := "mixBack", fn := fun _ => fun
  | [d1, d2, d3] => { results := [.lit (.bool false)], args := [d1, d2, d3] }
  | _ => none }
def MixBackWrongFalsely : Prop := mixBackRow.holds Try.pinned (OpenSpec.ofChange mixBackWrong)

/-- 'joustlaw27.MixBelow': WHATEVER THE INPUT: true; the input reads as it did. -/
def mixBelowSpec : ChangeSpec := { name := "mixBelow", fn := fun _ => fun
  | [d1, d2, d3] => { results := [.lit (.bool true)], args := [d1, d2, d3] }
  | _ => none }
def mixBelowRow : OpenClaim := { program := "ytnceobnglofnmaa", sum := "9b8f7c6da90a0ef0557821b060331fba2b756cf3d92258f7b77e644102d19503", func := "joust/joustlaw27.MixBelow", spec := "mixBelow", unfollowed := true, recurses := true, plainKeys := false, apart := false }
def MixBelowSaid : Prop := mixBelowRow.holds Try.pinned (OpenSpec.ofChange mixBelowSpec)

/-- ITS FALSE NEIGHBOUR: 'it returns false'. Refute it at one input. -/
def mixBelowWrong : ChangeSpec := { name := "mixBelow", fn := fun _ => fun
  | [d1, d2, d3] => { results := [.lit (.bool false)], args := [d1, d2, d3] }
  | _ => none }
def MixBelowWrongFalsely : Prop := mixBelowRow.holds Try.pinned (OpenSpec.ofChange mixBelowWrong)

/-- 'joustlaw27.MixTells': WHATEVER THE INPUT: true; the input reads as it did. -/
def mixTellsSpec : ChangeSpec := { name := "mixTells", fn := fun _ => fun
  | [d1, d2, d3, d4, d5, d6, d7] => { results := [.lit (.bool true)], args := [d1, d2, d3, d4, d5, d6, d7] }
  | _ => none }
def mixTellsRow : OpenClaim := { program := "ytnceobnglofnmaa", sum := "9b8f7c6da90a0ef0557821b060331fba2b756cf3d92258f7b77e644102d19503", func := "joust/joustlaw27.MixTells", spec := "mixTells", unfollowed := true, recurses := true, plainKeys := false, apart := false }
def MixTellsSaid : Prop := mixTellsRow.holds Try.pinned (OpenSpec.ofChange mixTellsSpec)

/-- ITS FALSE NEIGHBOUR: 'it returns false'. Refute it at one input. -/
def mixTellsWrong : ChangeSpec := { name := "mixTells", fn := fun _ => fun
  | [d1, d2, d3, d4, d5, d6, d7] => { results := [.lit (.bool false)], args := [d1, d2, d3, d4, d5, d6, d7] }
  | _ => none }
def MixTellsWrongFalsely : Prop := mixTellsRow.holds Try.pinned (OpenSpec.ofChange mixTellsWrong)

/-- 'joustlaw27.MixSeed': WHATEVER THE INPUT: true; the input reads as it did. -/
def mixSeedSpec : ChangeSpec := { name := "mixSeed", fn := fun _ => fun
  | [d1, d2] => { results := [.lit (.bool true)], args := [d1, d2] }
  | _ => none }
def mixSeedRow : OpenClaim := { program := "ytnceobnglofnmaa", sum := "9b8f7c6da90a0ef0557821b060331fba2b756cf3d92258f7b77e644102d19503", func := "joust/joustlaw27.MixSeed", spec := "mixSeed", unfollowed := true, recurses := true, plainKeys := false, apart := false }
def MixSeedSaid : Prop := mixSeedRow.holds Try.pinned (OpenSpec.ofChange mixSeedSpec)

/-- ITS FALSE NEIGHBOUR: 'it returns false'. Refute it at one input. -/
def mixSeedWrong : ChangeSpec := { name := "mixSeed", fn := fun _ => fun
  | [d1, d2] => { results := [.lit (.bool false)], args := [d1, d2] }
  | _ => none }
def MixSeedWrongFalsely : Prop := mixSeedRow.holds Try.pinned (OpenSpec.ofChange mixSeedWrong)

/-- 'joustlaw27.MixLots': WHATEVER THE INPUT: true; the input reads as it did. -/
def mixLotsSpec : ChangeSpec := { name := "mixLots", fn := fun _ => fun
  | [d1, d2, d3] => { results := [.lit (.bool true)], args := [d1, d2, d3] }
  | _ => none }
def mixLotsRow : OpenClaim := { program := "ytnceobnglofnmaa", sum := "9b8f7c6da90a0ef0557821b060331fba2b756cf3d92258f7b77e644102d19503", func := "joust/joustlaw27.MixLots", spec := "mixLots", unfollowed := true, recurses := true, plainKeys := false, apart := false }
def MixLotsSaid : Prop := mixLotsRow.holds Try.pinned (OpenSpec.ofChange mixLotsSpec)

/-- ITS FALSE NEIGHBOUR: 'it returns false'. Refute it at one input. -/
def mixLotsWrong : ChangeSpec := { name := "mixLots", fn := fun _ => fun
  | [d1, d2, d3] => { results := [.lit (.bool false)], args := [d1, d2, d3] }
  | _ => none }
def MixLotsWrongFalsely : Prop := mixLotsRow.holds Try.pinned (OpenSpec.ofChange mixLotsWrong)

/-- 'joustlaw33.PilotMost': WHATEVER THE INPUT: true; the input reads as it did. -/
def pilotMostSpec : ChangeSpec := { name := "pilotMost", fn := fun _ => fun
  | [d1, d2] => { results := [.lit (.bool true)], args := [d1, d2] }
  | _ => none }
def pilotMostRow : OpenClaim := { program := "ytnceobnglofnmaa", sum := "9b8f7c6da90a0ef0557821b060331fba2b756cf3d92258f7b77e644102d19503", func := "joust/joustlaw33.PilotMost", spec := "pilotMost", unfollowed := true, recurses := true, plainKeys := false, apart := false }
def PilotMostSaid : Prop := pilotMostRow.holds Try.pinned (OpenSpec.ofChange pilotMostSpec)

/-- ITS FALSE NEIGHBOUR: 'it returns false'. Refute it at one input. -/
def pilotMostWrong : ChangeSpec := { name := "pilotMost", fn := fun _ => fun
  | [d1, d2] => { results := [.lit (.bool false)], args := [d1, d2] }
  | _ => none }
def PilotMostWrongFalsely : Prop := pilotMostRow.holds Try.pinned (OpenSpec.ofChange pilotMostWrong)

/-- 'joustlaw33.PilotSeeds': WHATEVER THE INPUT: true; the input reads as it did. -/
def pilotSeedsSpec : ChangeSpec := { name := "pilotSeeds", fn := fun _ => fun
  | [d1, d2, d3] => { results := [.lit (.bool true)], args := [d1, d2, d3] }
  | _ => none }
def pilotSeedsRow : OpenClaim := { program := "ytnceobnglofnmaa", sum := "9b8f7c6da90a0ef0557821b060331fba2b756cf3d92258f7b77e644102d19503", func := "joust/joustlaw33.PilotSeeds", spec := "pilotSeeds", unfollowed := true, recurses := true, plainKeys := false, apart := false }
def PilotSeedsSaid : Prop := pilotSeedsRow.holds Try.pinned (OpenSpec.ofChange pilotSeedsSpec)

/-- ITS FALSE NEIGHBOUR: 'it returns false'. Refute it at one input. -/
def pilotSeedsWrong : ChangeSpec := { name := "pilotSeeds", fn := fun _ => fun
  | [d1, d2, d3] => { results := [.lit (.bool false)], args := [d1, d2, d3] }
  | _ => none }
def PilotSeedsWrongFalsely : Prop := pilotSeedsRow.holds Try.pinned (OpenSpec.ofChange pilotSeedsWrong)

/- THE SECOND FORM. 'bulk': how many values and letters a reading holds, each counted each time it is reached (what is shared counts as often as it is met; a slice's spare places count too). A statement '..UptoSaid' is the law's where the arguments, and the package variables that the reading takes, are together of bulk at most 1048576: NARROWER than '..Said'. Prove '..Said' where nothing that the law and all that it calls make is longer than what came in: it says more and counts as full. Else prove '..UptoSaid'. A law counts once. -/
mutual
def uptoBulk {H : Type} : DataW H → Nat
  | .lit (.string bytes) => bytes.length + 1
  | .lit _ => 1
  | .nil => 1
  | .ptr d => uptoBulk d + 1
  | .slice elems spare => uptoBulkAll elems + uptoBulkAll spare + 1
  | .agg parts => uptoBulkAll parts + 1
  | .iface _ d => uptoBulk d + 1
  | .map entries => uptoBulkEntries entries + 1
  | .held _ => 1
def uptoBulkAll {H : Type} : List (DataW H) → Nat
  | [] => 0
  | d :: r => uptoBulk d + uptoBulkAll r
def uptoBulkEntries {H : Type} : List (Lit × DataW H) → Nat
  | [] => 0
  | x :: r => uptoBulkEntry x + uptoBulkEntries r
def uptoBulkEntry {H : Type} : Lit × DataW H → Nat
  | (.string bytes, d) => bytes.length + uptoBulk d + 1
  | (_, d) => uptoBulk d + 1
 end
def uptoSmall : (H : Type) → List (DataW H) → Bool := fun _ ds => decide (uptoBulkAll ds ≤ 1048576)
def OpenSpec.upto (s : _root_.Go.ChangeSpec) : _root_.Go.OpenSpec := { _root_.Go.OpenSpec.ofChange s with cond := some uptoSmall }

/-- 'joustlaw11.MatchGrows', WHERE WHAT IT READS IS OF BULK AT MOST 1048576: true; the input reads as it did. -/
def matchGrowsUptoRow : OpenClaim := { program := "ytnceobnglofnmaa", sum := "9b8f7c6da90a0ef0557821b060331fba2b756cf3d92258f7b77e644102d19503", func := "joust/joustlaw11.MatchGrows", spec := "matchGrows", unfollowed := true, recurses := true, loops := true, plainKeys := false, apart := false, narrowed := true }
def MatchGrowsUptoSaid : Prop := matchGrowsUptoRow.holds Try.pinned (OpenSpec.upto matchGrowsSpec)

/-- 'joustlaw11.MatchTells', WHERE WHAT IT READS IS OF BULK AT MOST 1048576: true; the input reads as it did. -/
def matchTellsUptoRow : OpenClaim := { program := "ytnceobnglofnmaa", sum := "9b8f7c6da90a0ef0557821b060331fba2b756cf3d92258f7b77e644102d19503", func := "joust/joustlaw11.MatchTells", spec := "matchTells", unfollowed := true, recurses := true, loops := true, plainKeys := false, apart := false, narrowed := true }
def MatchTellsUptoSaid : Prop := matchTellsUptoRow.holds Try.pinned (OpenSpec.upto matchTellsSpec)

/-- 'joustlaw07.MightSides', WHERE WHAT IT READS IS OF BULK AT MOST 1048576: true; the input reads as it did. -/
def mightSidesUptoRow : OpenClaim := { program := "ytnceobnglofnmaa", sum := "9b8f7c6da90a0ef0557821b060331fba2b756cf3d92258f7b77e644102d19503", func := "joust/joustlaw07.MightSides", spec := "mightSides", unfollowed := true, recurses := true, loops := true, plainKeys := false, apart := false, narrowed := true }
def MightSidesUptoSaid : Prop := mightSidesUptoRow.holds Try.pinned (OpenSpec.upto mightSidesSpec)

/-- 'joustlaw07.MightAuras', WHERE WHAT IT READS IS OF BULK AT MOST 1048576: true; the input reads as it did. -/
def mightAurasUptoRow : OpenClaim := { program := "ytnceobnglofnmaa", sum := "9b8f7c6da90a0ef0557821b060331fba2b756cf3d92258f7b77e644102d19503", func := "joust/joustlaw07.MightAuras", spec := "mightAuras", unfollowed := true, recurses := true, loops := true, plainKeys := false, apart := false, narrowed := true }
def MightAurasUptoSaid : Prop := mightAurasUptoRow.holds Try.pinned (OpenSpec.upto mightAurasSpec)

/-- 'joustlaw07.MightTells', WHERE WHAT IT READS IS OF BULK AT MOST 1048576: true; the input reads as it did. -/
def mightTellsUptoRow : OpenClaim := { program := "ytnceobnglofnmaa", sum := "9b8f7c6da90a0ef0557821b060331fba2b756cf3d92258f7b77e644102d19503", func := "joust/joustlaw07.MightTells", spec := "mightTells", unfollowed := true, recurses := true, loops := true, plainKeys := false, apart := false, narrowed := true }
def MightTellsUptoSaid : Prop := mightTellsUptoRow.holds Try.pinned (OpenSpec.upto mightTellsSpec)

/-- 'joustlaw27.MixBack', WHERE WHAT IT READS IS OF BULK AT MOST 1048576: true; the input reads as it did. -/
def mixBackUptoRow : OpenClaim := { program := "ytnceobnglofnmaa", sum := "9b8f7c6da90a0ef0557821b060331fba2b756cf3d92258f7b77e644102d19503", func := "joust/joustlaw27.MixBack", spec := "mixBack", unfollowed := true, recurses := true, plainKeys := false, apart := false, narrowed := true }
def MixBackUptoSaid : Prop := mixBackUptoRow.holds Try.pinned (OpenSpec.upto mixBackSpec)

/-- 'joustlaw27.MixBelow', WHERE WHAT IT READS IS OF BULK AT MOST 1048576: true; the input reads as it did. -/
def mixBelowUptoRow : OpenClaim := { program := "ytnceobnglofnmaa", sum := "9b8f7c6da90a0ef0557821b060331fba2b756cf3d92258f7b77e644102d19503", func := "joust/joustlaw27.MixBelow", spec := "mixBelow", unfollowed := true, recurses := true, plainKeys := false, apart := false, narrowed := true }
def MixBelowUptoSaid : Prop := mixBelowUptoRow.holds Try.pinned (OpenSpec.upto mixBelowSpec)

/-- 'joustlaw27.MixTells', WHERE WHAT IT READS IS OF BULK AT MOST 1048576: true; the input reads as it did. -/
def mixTellsUptoRow : OpenClaim := { program := "ytnceobnglofnmaa", sum := "9b8f7c6da90a0ef0557821b060331fba2b756cf3d92258f7b77e644102d19503", func := "joust/joustlaw27.MixTells", spec := "mixTells", unfollowed := true, recurses := true, plainKeys := false, apart := false, narrowed := true }
def MixTellsUptoSaid : Prop := mixTellsUptoRow.holds Try.pinned (OpenSpec.upto mixTellsSpec)

/-- 'joustlaw27.MixSeed', WHERE WHAT IT READS IS OF BULK AT MOST 1048576: true; the input reads as it did. -/
def mixSeedUptoRow : OpenClaim := { program := "ytnceobnglofnmaa", sum := "9b8f7c6da90a0ef0557821b060331fba2b756cf3d92258f7b77e644102d19503", func := "joust/joustlaw27.MixSeed", spec := "mixSeed", unfollowed := true, recurses := true, plainKeys := false, apart := false, narrowed := true }
def MixSeedUptoSaid : Prop := mixSeedUptoRow.holds Try.pinned (OpenSpec.upto mixSeedSpec)

/-- 'joustlaw27.MixLots', WHERE WHAT IT READS IS OF BULK AT MOST 1048576: true; the input reads as it did. -/
def mixLotsUptoRow : OpenClaim := { program := "ytnceobnglofnmaa", sum := "9b8f7c6da90a0ef0557821b060331fba2b756cf3d92258f7b77e644102d19503", func := "joust/joustlaw27.MixLots", spec := "mixLots", unfollowed := true, recurses := true, plainKeys := false, apart := false, narrowed := true }
def MixLotsUptoSaid : Prop := mixLotsUptoRow.holds Try.pinned (OpenSpec.upto mixLotsSpec)

/-- 'joustlaw33.PilotMost', WHERE WHAT IT READS IS OF BULK AT MOST 1048576: true; the input reads as it did. -/
def pilotMostUptoRow : OpenClaim := { program := "ytnceobnglofnmaa", sum := "9b8f7c6da90a0ef0557821b060331fba2b756cf3d92258f7b77e644102d19503", func := "joust/joustlaw33.PilotMost", spec := "pilotMost", unfollowed := true, recurses := true, plainKeys := false, apart := false, narrowed := true }
def PilotMostUptoSaid : Prop := pilotMostUptoRow.holds Try.pinned (OpenSpec.upto pilotMostSpec)

/-- 'joustlaw33.PilotSeeds', WHERE WHAT IT READS IS OF BULK AT MOST 1048576: true; the input reads as it did. -/
def pilotSeedsUptoRow : OpenClaim := { program := "ytnceobnglofnmaa", sum := "9b8f7c6da90a0ef0557821b060331fba2b756cf3d92258f7b77e644102d19503", func := "joust/joustlaw33.PilotSeeds", spec := "pilotSeeds", unfollowed := true, recurses := true, plainKeys := false, apart := false, narrowed := true }
def PilotSeedsUptoSaid : Prop := pilotSeedsUptoRow.holds Try.pinned (OpenSpec.upto pilotSeedsSpec)

end Rows
end Go.Proofs.Ytnceobnglofnmaa
