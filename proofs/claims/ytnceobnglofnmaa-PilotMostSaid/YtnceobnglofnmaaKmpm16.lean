/- Joined by a program of this session (pack.py) out of: BasePs -/
import Derived.Test.YtnceobnglofnmaaKmpm11
import Derived.Test.YtnceobnglofnmaaKmpm14
import Derived.Test.YtnceobnglofnmaaKmpm15
section
/- What the statements of the pilot take as given. -/
end
