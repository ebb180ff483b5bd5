/-
  NARROWER THAN 'FOR EVERY INPUT', by the rows' own cells (each row's printed sentence says how): MightSides: loops · MightAuras: loops · MightTells: loops · FightFair: loops · FightTells: loops · FightMay: loops · BoardPuts: loops · BoardPlays: loops · EvalSums: loops · EvalCounts: loops · EvalTells: loops · TrigOrder: loops.
  DERIVED. THE GIVEN ROWS OF THIS SEAT. 12 by the template 'for every input the law returns true; each argument reads behind the call as it read before'; 0 by the template 'total and deterministic' (their statements: YtlldpdhajddmiaaTotals.lean).
  GIVEN WITH THE SEED: the statements are not yours to turn. If you find one false, say at which input.
  Laid BY PROGRAM, IN A SANDBOX (cutbox-rows.mjs): the forced cells as the released guide's own fill.sh prints them over the translation 5c71d0eccb9f1f03… (all of the seat's roots in one cut). By AI agents, Wed Nov 11 2026. No macro, syntax, notation, axiom, sorry.
-/
import Derived.Test.YtlldpdhajddmiaaChecked
import GoSem.Claim
import GoSem.ClaimJoined
import GoSem.ClaimMapViews
import Derived.JoinedTies
import Derived.KernelRfl
namespace Go.Proofs.Ytlldpdhajddmiaa
/- THE CELL 'sum', in the pinned program and in every row, IS THE sha256 OF THE DUMP (.gsa) THAT YtlldpdhajddmiaaProg.lean LOADS. Nothing in Lean hashes anything: it is a label: what it is worth is what the hold of that sum in a sandbox is worth. -/
noncomputable def Try.pinned : Pinned := { name := "ytlldpdhajddmiaa", sum := "5c71d0eccb9f1f039c046d019c297a9f60d58778083a325f8bcab29cca725942", checked := Try.checked }
namespace Rows
def none {H : Type} : Left H := { results := [], args := [] }

/-- 'joustlaw07.MightSides': WHATEVER THE INPUT: true; the input reads as it did. -/
def mightSidesSpec : ChangeSpec := { name := "mightSides", fn := fun _ => fun
  | [d1, d2, d3, d4, d5, d6] => { results := [.lit (.bool true)], args := [d1, d2, d3, d4, d5, d6] }
  | _ => none }
def mightSidesRow : OpenClaim := { program := "ytlldpdhajddmiaa", sum := "5c71d0eccb9f1f039c046d019c297a9f60d58778083a325f8bcab29cca725942", func := "joust/joustlaw07.MightSides", spec := "mightSides", unfollowed := true, recurses := true, loops := true, plainKeys := false, apart := false }
def MightSidesSaid : Prop := mightSidesRow.holds Try.pinned (OpenSpec.ofChange mightSidesSpec)

/-- ITS FALSE NEIGHBOUR: 'it returns false'. Refute it at one input. -/
def mightSidesWrong : ChangeSpec := { name := "mightSides", fn := fun _ => fun
  | [d1, d2, d3, d4, d5, d6] => { results := [.lit (.bool false)], args := [d1, d2, d3, d4, d5, d6] }
  | _ => none }
def MightSidesWrongFalsely : Prop := mightSidesRow.holds Try.pinned (OpenSpec.ofChange mightSidesWrong)

/-- 'joustlaw07.MightAuras': WHATEVER THE INPUT: true; the input reads as it did. -/
def mightAurasSpec : ChangeSpec := { name := "mightAuras", fn := fun _ => fun
  | [d1, d2, d3] => { results := [.lit (.bool true)], args := [d1, d2, d3] }
  | _ => none }
def mightAurasRow : OpenClaim := { program := "ytlldpdhajddmiaa", sum := "5c71d0eccb9f1f039c046d019c297a9f60d58778083a325f8bcab29cca725942", func := "joust/joustlaw07.MightAuras", spec := "mightAuras", unfollowed := true, recurses := true, loops := true, plainKeys := false, apart := false }
def MightAurasSaid : Prop := mightAurasRow.holds Try.pinned (OpenSpec.ofChange mightAurasSpec)

/-- ITS FALSE NEIGHBOUR: 'it returns false'. Refute it at one input. -/
def mightAurasWrong : ChangeSpec := { name := "mightAuras", fn := fun _ => fun
  | [d1, d2, d3] => { results := [.lit (.bool false)], args := [d1, d2, d3] }
  | _ => none }
def MightAurasWrongFalsely : Prop := mightAurasRow.holds Try.pinned (OpenSpec.ofChange mightAurasWrong)

/-- 'joustlaw07.MightTells': WHATEVER THE INPUT: true; the input reads as it did. -/
def mightTellsSpec : ChangeSpec := { name := "mightTells", fn := fun _ => fun
  | [d1, d2, d3, d4, d5] => { results := [.lit (.bool true)], args := [d1, d2, d3, d4, d5] }
  | _ => none }
def mightTellsRow : OpenClaim := { program := "ytlldpdhajddmiaa", sum := "5c71d0eccb9f1f039c046d019c297a9f60d58778083a325f8bcab29cca725942", func := "joust/joustlaw07.MightTells", spec := "mightTells", unfollowed := true, recurses := true, loops := true, plainKeys := false, apart := false }
def MightTellsSaid : Prop := mightTellsRow.holds Try.pinned (OpenSpec.ofChange mightTellsSpec)

/-- ITS FALSE NEIGHBOUR: 'it returns false'. Refute it at one input. -/
def mightTellsWrong : ChangeSpec := { name := "mightTells", fn := fun _ => fun
  | [d1, d2, d3, d4, d5] => { results := [.lit (.bool false)], args := [d1, d2, d3, d4, d5] }
  | _ => none }
def MightTellsWrongFalsely : Prop := mightTellsRow.holds Try.pinned (OpenSpec.ofChange mightTellsWrong)

/-- 'joustlaw15.FightFair': WHATEVER THE INPUT: true; the input reads as it did. -/
def fightFairSpec : ChangeSpec := { name := "fightFair", fn := fun _ => fun
  | [d1, d2, d3] => { results := [.lit (.bool true)], args := [d1, d2, d3] }
  | _ => none }
def fightFairRow : OpenClaim := { program := "ytlldpdhajddmiaa", sum := "5c71d0eccb9f1f039c046d019c297a9f60d58778083a325f8bcab29cca725942", func := "joust/joustlaw15.FightFair", spec := "fightFair", unfollowed := true, recurses := true, loops := true, plainKeys := false, apart := false }
def FightFairSaid : Prop := fightFairRow.holds Try.pinned (OpenSpec.ofChange fightFairSpec)

/-- ITS FALSE NEIGHBOUR: 'it returns false'. Refute it at one input. -/
def fightFairWrong : ChangeSpec := { name := "fightFair", fn := fun _ => fun
  | [d1, d2, d3] => { results := [.lit (.bool false)], args := [d1, d2, d3] }
  | _ => none }
def FightFairWrongFalsely : Prop := fightFairRow.holds Try.pinned (OpenSpec.ofChange fightFairWrong)

/-- 'joustlaw15.FightTells': WHATEVER THE INPUT: true; the input reads as it did. -/
def fightTellsSpec : ChangeSpec := { name := "fightTells", fn := fun _ => fun
  | [d1, d2, d3, d4] => { results := [.lit (.bool true)], args := [d1, d2, d3, d4] }
  | _ => none }
def fightTellsRow : OpenClaim := { program := "ytlldpdhajddmiaa", sum := "5c71d0eccb9f1f039c046d019c297a9f60d58778083a325f8bcab29cca725942", func := "joust/joustlaw15.FightTells", spec := "fightTells", unfollowed := true, recurses := true, loops := true, plainKeys := false, apart := false }
def FightTellsSaid : Prop := fightTellsRow.holds Try.pinned (OpenSpec.ofChange fightTellsSpec)

/-- ITS FALSE NEIGHBOUR: 'it returns false'. Refute it at one input. -/
def fightTellsWrong : ChangeSpec := { name := "fightTells", fn := fun _ => fun
  | [d1, d2, d3, d4] => { results := [.lit (.bool false)], args := [d1, d2, d3, d4] }
  | _ => none }
def FightTellsWrongFalsely : Prop := fightTellsRow.holds Try.pinned (OpenSpec.ofChange fightTellsWrong)

/-- 'joustlaw15.FightMay': WHATEVER THE INPUT: true; the input reads as it did. -/
def fightMaySpec : ChangeSpec := { name := "fightMay", fn := fun _ => fun
  | [d1, d2] => { results := [.lit (.bool true)], args := [d1, d2] }
  | _ => none }
def fightMayRow : OpenClaim := { program := "ytlldpdhajddmiaa", sum := "5c71d0eccb9f1f039c046d019c297a9f60d58778083a325f8bcab29cca725942", func := "joust/joustlaw15.FightMay", spec := "fightMay", unfollowed := true, recurses := true, loops := true, plainKeys := false, apart := false }
def FightMaySaid : Prop := fightMayRow.holds Try.pinned (OpenSpec.ofChange fightMaySpec)

/-- ITS FALSE NEIGHBOUR: 'it returns false'. Refute it at one input. -/
def fightMayWrong : ChangeSpec := { name := "fightMay", fn := fun _ => fun
  | [d1, d2] => { results := [.lit (.bool false)], args := [d1, d2] }
  | _ => none }
def FightMayWrongFalsely : Prop := fightMayRow.holds Try.pinned (OpenSpec.ofChange fightMayWrong)

/-- 'joustlaw06.BoardPuts': WHATEVER THE INPUT: true; the input reads as it did. -/
def boardPutsSpec : ChangeSpec := { name := "boardPuts", fn := fun _ => fun
  | [d1, d2, d3, d4, d5, d6, d7] => { results := [.lit (.bool true)], args := [d1, d2, d3, d4, d5, d6, d7] }
  | _ => none }
def boardPutsRow : OpenClaim := { program := "ytlldpdhajddmiaa", sum := "5c71d0eccb9f1f039c046d019c297a9f60d58778083a325f8bcab29cca725942", func := "joust/joustlaw06.BoardPuts", spec := "boardPuts", unfollowed := true, recurses := true, loops := true, plainKeys := false, apart := false }
def BoardPutsSaid : Prop := boardPutsRow.holds Try.pinned (OpenSpec.ofChange boardPutsSpec)

/-- ITS FALSE NEIGHBOUR: 'it returns false'. Refute it at one input. -/
def boardPutsWrong : ChangeSpec := { name := "boardPuts", fn := fun _ => fun
  | [d1, d2, d3, d4, d5, d6, d7] => { results := [.lit (.bool false)], args := [d1, d2, d3, d4, d5, d6, d7] }
  | _ => none }
def BoardPutsWrongFalsely : Prop := boardPutsRow.holds Try.pinned (OpenSpec.ofChange boardPutsWrong)

/-- 'joustlaw06.BoardPlays': WHATEVER THE INPUT: true; the input reads as it did. -/
def boardPlaysSpec : ChangeSpec := { name := "boardPlays", fn := fun _ => fun
  | [d1, d2, d3] => { results := [.lit (.bool true)], args := [d1, d2, d3] }
  | _ => none }
def boardPlaysRow : OpenClaim := { program := "ytlldpdhajddmiaa", sum := "5c71d0eccb9f1f039c046d019c297a9f60d58778083a325f8bcab29cca725942", func := "joust/joustlaw06.BoardPlays", spec := "boardPlays", unfollowed := true, recurses := true, loops := true, plainKeys := false, apart := false }
def BoardPlaysSaid : Prop := boardPlaysRow.holds Try.pinned (OpenSpec.ofChange boardPlaysSpec)

/-- ITS FALSE NEIGHBOUR: 'it returns false'. Refute it at one input. -/
def boardPlaysWrong : ChangeSpec := { name := "boardPlays", fn := fun _ => fun
  | [d1, d2, d3] => { results := [.lit (.bool false)], args := [d1, d2, d3] }
  | _ => none }
def BoardPlaysWrongFalsely : Prop := boardPlaysRow.holds Try.pinned (OpenSpec.ofChange boardPlaysWrong)

/-- 'joustlaw08.EvalSums': WHATEVER THE INPUT: true; the input reads as it did. -/
def evalSumsSpec : ChangeSpec := { name := "evalSums", fn := fun _ => fun
  | [d1, d2, d3, d4, d5] => { results := [.lit (.bool true)], args := [d1, d2, d3, d4, d5] }
  | _ => none }
def evalSumsRow : OpenClaim := { program := "ytlldpdhajddmiaa", sum := "5c71d0eccb9f1f039c046d019c297a9f60d58778083a325f8bcab29cca725942", func := "joust/joustlaw08.EvalSums", spec := "evalSums", unfollowed := true, recurses := true, loops := true, plainKeys := false, apart := false }
def EvalSumsSaid : Prop := evalSumsRow.holds Try.pinned (OpenSpec.ofChange evalSumsSpec)

/-- ITS FALSE NEIGHBOUR: 'it returns false'. Refute it at one input. -/
def evalSumsWrong : ChangeSpec := { name := "evalSums", fn := fun _ => fun
  | [d1, d2, d3, d4, d5] => { results := [.lit (.bool false)], args := [d1, d2, d3, d4, d5] }
  | _ => none }
def EvalSumsWrongFalsely : Prop := evalSumsRow.holds Try.pinned (OpenSpec.ofChange evalSumsWrong)

/-- 'joustlaw08.EvalCounts': WHATEVER THE INPUT: true; the input reads as it did. -/
def evalCountsSpec : ChangeSpec := { name := "evalCounts", fn := fun _ => fun
  | [d1, d2, d3, d4] => { results := [.lit (.bool true)], args := [d1, d2, d3, d4] }
  | _ => none }
def evalCountsRow : OpenClaim := { program := "ytlldpdhajddmiaa", sum := "5c71d0eccb9f1f039c046d019c297a9f60d58778083a325f8bcab29cca725942", func := "joust/joustlaw08.EvalCounts", spec := "evalCounts", unfollowed := true, recurses := true, loops := true, plainKeys := false, apart := false }
def EvalCountsSaid : Prop := evalCountsRow.holds Try.pinned (OpenSpec.ofChange evalCountsSpec)

/-- ITS FALSE NEIGHBOUR: 'it returns false'. Refute it at one input. -/
def evalCountsWrong : ChangeSpec := { name := "evalCounts", fn := fun _ => fun
  | [d1, d2, d3, d4] => { results := [.lit (.bool false)], args := [d1, d2, d3, d4] }
  | _ => none }
def EvalCountsWrongFalsely : Prop := evalCountsRow.holds Try.pinned (OpenSpec.ofChange evalCountsWrong)

/-- 'joustlaw08.EvalTells': WHATEVER THE INPUT: true; the input reads as it did. -/
def evalTellsSpec : ChangeSpec := { name := "evalTells", fn := fun _ => fun
  | [d1, d2, d3, d4, d5, d6] => { results := [.lit (.bool true)], args := [d1, d2, d3, d4, d5, d6] }
  | _ => none }
def evalTellsRow : OpenClaim := { program := "ytlldpdhajddmiaa", sum := "5c71d0eccb9f1f039c046d019c297a9f60d58778083a325f8bcab29cca725942", func := "joust/joustlaw08.EvalTells", spec := "evalTells", unfollowed := true, recurses := true, loops := true, plainKeys := false, apart := false }
def EvalTellsSaid : Prop := evalTellsRow.holds Try.pinned (OpenSpec.ofChange evalTellsSpec)

/-- ITS FALSE NEIGHBOUR: 'it returns false'. Refute it at one input. -/
def evalTellsWrong : ChangeSpec := { name := "evalTells", fn := fun _ => fun
  | [d1, d2, d3, d4, d5, d6] => { results := [.lit (.bool false)], args := [d1, d2, d3, d4, d5, d6] }
  | _ => none }
def EvalTellsWrongFalsely : Prop := evalTellsRow.holds Try.pinned (OpenSpec.ofChange evalTellsWrong)

/-- 'joustlaw13.TrigOrder': WHATEVER THE INPUT: true; the input reads as it did. -/
def trigOrderSpec : ChangeSpec := { name := "trigOrder", fn := fun _ => fun
  | [d1, d2] => { results := [.lit (.bool true)], args := [d1, d2] }
  | _ => none }
def trigOrderRow : OpenClaim := { program := "ytlldpdhajddmiaa", sum := "5c71d0eccb9f1f039c046d019c297a9f60d58778083a325f8bcab29cca725942", func := "joust/joustlaw13.TrigOrder", spec := "trigOrder", unfollowed := true, recurses := true, loops := true, plainKeys := false, apart := false }
def TrigOrderSaid : Prop := trigOrderRow.holds Try.pinned (OpenSpec.ofChange trigOrderSpec)

/-- ITS FALSE NEIGHBOUR: 'it returns false'. Refute it at one input. -/
def trigOrderWrong : ChangeSpec := { name := "trigOrder", fn := fun _ => fun
  | [d1, d2] => { results := [.lit (.bool false)], args := [d1, d2] }
  | _ => none }
def TrigOrderWrongFalsely : Prop := trigOrderRow.holds Try.pinned (OpenSpec.ofChange trigOrderWrong)

/- THE SECOND FORM. 'bulk': how many values and letters a reading holds, each counted each time it is reached (what is shared counts as often as it is met; a slice's spare places count too). A statement '..UptoSaid' is the law's where the arguments, and the package variables that the reading takes, are together of bulk at most 1048576: NARROWER than '..Said'. Prove '..Said' where nothing that the law and all that it calls make is longer than what came in: it says more and counts as full. Else prove '..UptoSaid'. A law counts once. -/
mutual
def uptoBulk {H : Type} : DataW H → Nat
  | .lit (.string bytes) => bytes.length + 1
  | .lit _ => 1
  | .nil => 1
  | .ptr d => uptoBulk d + 1
  | .slice elems spare => uptoBulkAll elems + uptoBulkAll spare + 1
  | .agg parts => uptoBulkAll parts + 1
  | .iface _ d => uptoBulk d + 1
  | .map entries => uptoBulkEntries entries + 1
  | .held _ => 1
def uptoBulkAll {H : Type} : List (DataW H) → Nat
  | [] => 0
  | d :: r => uptoBulk d + uptoBulkAll r
def uptoBulkEntries {H : Type} : List (Lit × DataW H) → Nat
  | [] => 0
  | x :: r => uptoBulkEntry x + uptoBulkEntries r
def uptoBulkEntry {H : Type} : Lit × DataW H → Nat
  | (.string bytes, d) => bytes.length + uptoBulk d + 1
  | (_, d) => uptoBulk d + 1
 end
def uptoSmall : (H : Type) → List (DataW H) → Bool := fun _ ds => decide (uptoBulkAll ds ≤ 1048576)
def OpenSpec.upto (s : _root_.Go.ChangeSpec) : _root_.Go.OpenSpec := { _root_.Go.OpenSpec.ofChange s with cond := some uptoSmall }

/-- 'joustlaw07.MightSides', WHERE WHAT IT READS IS OF BULK AT MOST 1048576: true; the input reads as it did. -/
def mightSidesUptoRow : OpenClaim := { program := "ytlldpdhajddmiaa", sum := "5c71d0eccb9f1f039c046d019c297a9f60d58778083a325f8bcab29cca725942", func := "joust/joustlaw07.MightSides", spec := "mightSides", unfollowed := true, recurses := true, loops := true, plainKeys := false, apart := false, narrowed := true }
def MightSidesUptoSaid : Prop := mightSidesUptoRow.holds Try.pinned (OpenSpec.upto mightSidesSpec)

/-- 'joustlaw07.MightAuras', WHERE WHAT IT READS IS OF BULK AT MOST 1048576: true; the input reads as it did. -/
def mightAurasUptoRow : OpenClaim := { program := "ytlldpdhajddmiaa", sum := "5c71d0eccb9f1f039c046d019c297a9f60d58778083a325f8bcab29cca725942", func := "joust/joustlaw07.MightAuras", spec := "mightAuras", unfollowed := true, recurses := true, loops := true, plainKeys := false, apart := false, narrowed := true }
def MightAurasUptoSaid : Prop := mightAurasUptoRow.holds Try.pinned (OpenSpec.upto mightAurasSpec)

/-- 'joustlaw07.MightTells', WHERE WHAT IT READS IS OF BULK AT MOST 1048576: true; the input reads as it did. -/
def mightTellsUptoRow : OpenClaim := { program := "ytlldpdhajddmiaa", sum := "5c71d0eccb9f1f039c046d019c297a9f60d58778083a325f8bcab29cca725942", func := "joust/joustlaw07.MightTells", spec := "mightTells", unfollowed := true, recurses := true, loops := true, plainKeys := false, apart := false, narrowed := true }
def MightTellsUptoSaid : Prop := mightTellsUptoRow.holds Try.pinned (OpenSpec.upto mightTellsSpec)

/-- 'joustlaw15.FightFair', WHERE WHAT IT READS IS OF BULK AT MOST 1048576: true; the input reads as it did. -/
def fightFairUptoRow : OpenClaim := { program := "ytlldpdhajddmiaa", sum := "5c71d0eccb9f1f039c046d019c297a9f60d58778083a325f8bcab29cca725942", func := "joust/joustlaw15.FightFair", spec := "fightFair", unfollowed := true, recurses := true, loops := true, plainKeys := false, apart := false, narrowed := true }
def FightFairUptoSaid : Prop := fightFairUptoRow.holds Try.pinned (OpenSpec.upto fightFairSpec)

/-- 'joustlaw15.FightTells', WHERE WHAT IT READS IS OF BULK AT MOST 1048576: true; the input reads as it did. -/
def fightTellsUptoRow : OpenClaim := { program := "ytlldpdhajddmiaa", sum := "5c71d0eccb9f1f039c046d019c297a9f60d58778083a325f8bcab29cca725942", func := "joust/joustlaw15.FightTells", spec := "fightTells", unfollowed := true, recurses := true, loops := true, plainKeys := false, apart := false, narrowed := true }
def FightTellsUptoSaid : Prop := fightTellsUptoRow.holds Try.pinned (OpenSpec.upto fightTellsSpec)

/-- 'joustlaw15.FightMay', WHERE WHAT IT READS IS OF BULK AT MOST 1048576: true; the input reads as it did. -/
def fightMayUptoRow : OpenClaim := { program := "ytlldpdhajddmiaa", sum := "5c71d0eccb9f1f039c046d019c297a9f60d58778083a325f8bcab29cca725942", func := "joust/joustlaw15.FightMay", spec := "fightMay", unfollowed := true, recurses := true, loops := true, plainKeys := false, apart := false, narrowed := true }
def FightMayUptoSaid : Prop := fightMayUptoRow.holds Try.pinned (OpenSpec.upto fightMaySpec)

/-- 'joustlaw06.BoardPuts', WHERE WHAT IT READS IS OF BULK AT MOST 1048576: true; the input reads as it did. -/
def boardPutsUptoRow : OpenClaim := { program := "ytlldpdhajddmiaa", sum := "5c71d0eccb9f1f039c046d019c297a9f60d58778083a325f8bcab29cca725942", func := "joust/joustlaw06.BoardPuts", spec := "boardPuts", unfollowed := true, recurses := true, loops := true, plainKeys := false, apart := false, narrowed := true }
def BoardPutsUptoSaid : Prop := boardPutsUptoRow.holds Try.pinned (OpenSpec.upto boardPutsSpec)

/-- 'joustlaw06.BoardPlays', WHERE WHAT IT READS IS OF BULK AT MOST 1048576: true; the input reads as it did. -/
def boardPlaysUptoRow : OpenClaim := { program := "ytlldpdhajddmiaa", sum := "5c71d0eccb9f1f039c046d019c297a9f60d58778083a325f8bcab29cca725942", func := "joust/joustlaw06.BoardPlays", spec := "boardPlays", unfollowed := true, recurses := true, loops := true, plainKeys := false, apart := false, narrowed := true }
def BoardPlaysUptoSaid : Prop := boardPlaysUptoRow.holds Try.pinned (OpenSpec.upto boardPlaysSpec)

/-- 'joustlaw08.EvalSums', WHERE WHAT IT READS IS OF BULK AT MOST 1048576: true; the input reads as it did. -/
def evalSumsUptoRow : OpenClaim := { program := "ytlldpdhajddmiaa", sum := "5c71d0eccb9f1f039c046d019c297a9f60d58778083a325f8bcab29cca725942", func := "joust/joustlaw08.EvalSums", spec := "evalSums", unfollowed := true, recurses := true, loops := true, plainKeys := false, apart := false, narrowed := true }
def EvalSumsUptoSaid : Prop := evalSumsUptoRow.holds Try.pinned (OpenSpec.upto evalSumsSpec)

/-- 'joustlaw08.EvalCounts', WHERE WHAT IT READS IS OF BULK AT MOST 1048576: true; the input reads as it did. -/
def evalCountsUptoRow : OpenClaim := { program := "ytlldpdhajddmiaa", sum := "5c71d0eccb9f1f039c046d019c297a9f60d58778083a325f8bcab29cca725942", func := "joust/joustlaw08.EvalCounts", spec := "evalCounts", unfollowed := true, recurses := true, loops := true, plainKeys := false, apart := false, narrowed := true }
def EvalCountsUptoSaid : Prop := evalCountsUptoRow.holds Try.pinned (OpenSpec.upto evalCountsSpec)

/-- 'joustlaw08.EvalTells', WHERE WHAT IT READS IS OF BULK AT MOST 1048576: true; the input reads as it did. -/
def evalTellsUptoRow : OpenClaim := { program := "ytlldpdhajddmiaa", sum := "5c71d0eccb9f1f039c046d019c297a9f60d58778083a325f8bcab29cca725942", func := "joust/joustlaw08.EvalTells", spec := "evalTells", unfollowed := true, recurses := true, loops := true, plainKeys := false, apart := false, narrowed := true }
def EvalTellsUptoSaid : Prop := evalTellsUptoRow.holds Try.pinned (OpenSpec.upto evalTellsSpec)

/-- 'joustlaw13.TrigOrder', WHERE WHAT IT READS IS OF BULK AT MOST 1048576: true; the input reads as it did. -/
def trigOrderUptoRow : OpenClaim := { program := "ytlldpdhajddmiaa", sum := "5c71d0eccb9f1f039c046d019c297a9f60d58778083a325f8bcab29cca725942", func := "joust/joustlaw13.TrigOrder", spec := "trigOrder", unfollowed := true, recurses := true, loops := true, plainKeys := false, apart := false, narrowed := true }
def TrigOrderUptoSaid : Prop := trigOrderUptoRow.holds Try.pinned (OpenSpec.upto trigOrderSpec)

end Rows
end Go.Proofs.Ytlldpdhajddmiaa
