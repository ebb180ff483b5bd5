/- Joined by a program of this session (pack.py) out of: Mxq BaseMz -/
import Derived.Test.YtnceobnglofnmaaKms4
import Derived.Test.YtnceobnglofnmaaKms7
import Derived.Test.YtnceobnglofnmaaKms9
import Derived.Test.YtnceobnglofnmaaKms10
section
/- A number below n is told: the first draw that may be taken comes. -/
namespace Go.Proofs.Ytnceobnglofnmaa.Base
open Go Go.RowKit Go.Proofs.YtnceobnglofnmaaW.PrintWords Go.Proofs.Ytnceobnglofnmaa.Pmxa Go.Proofs.Ytnceobnglofnmaa.Pmxl

theorem lives_tells : Tells (fun k => joustlaw27_lives.f k) true := Tells.mono (fun k => joustlaw27_lives.mono k) (k0 := 20) (by kernel_rfl)

end Go.Proofs.Ytnceobnglofnmaa.Base
end
section
/- What the statements of the mixing take as given. -/
end
