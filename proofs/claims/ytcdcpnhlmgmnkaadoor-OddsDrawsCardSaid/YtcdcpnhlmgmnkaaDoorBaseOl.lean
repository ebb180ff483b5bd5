/- What the statements' prints take as given: the chances' calls (printed) and lives (walked). -/
import Derived.Test.YtcdcpnhlmgmnkaaDoorOddA
namespace Go.Proofs.YtcdcpnhlmgmnkaaDoor.Podd
open Go.RowKit Go.Proofs.YtcdcpnhlmgmnkaaDoor.Base
def lives.f : Option Bool := some true
theorem lives.calls (r : Bool) (w : World) (hg_ : GoodW w) (h : lives.f = some r) :
    Calls Tryd.prog 34 #[] w fun e w' => e = .returned (.bool r) ∧ Below w.heap.size w w' := by
  cases h; exact Odd.lives_calls w hg_
end Go.Proofs.YtcdcpnhlmgmnkaaDoor.Podd
