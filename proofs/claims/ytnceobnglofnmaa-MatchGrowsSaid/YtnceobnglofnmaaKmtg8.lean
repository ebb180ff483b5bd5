/- Joined by a program of this session (pack.py) out of: BaseMv -/
import Derived.Test.YtnceobnglofnmaaKmtg6
import Derived.Test.YtnceobnglofnmaaKmtg7
section
/- What the statements of match take as given. -/
end
