/- Joined by a program of this session (pack.py) out of: BaseMz -/
import Derived.Test.YtnceobnglofnmaaKmpm8
import Derived.Test.YtnceobnglofnmaaKmpm9
section
/- What the statements of the mixing take as given. -/
end
