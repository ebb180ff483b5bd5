/- Joined by a program of this session (pack.py) out of: BasePs -/
import Derived.Test.YtnceobnglofnmaaKmps11
import Derived.Test.YtnceobnglofnmaaKmps14
import Derived.Test.YtnceobnglofnmaaKmps15
section
/- What the statements of the pilot take as given. -/
end
