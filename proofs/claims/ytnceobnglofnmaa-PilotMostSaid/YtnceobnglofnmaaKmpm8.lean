/- Joined by a program of this session (pack.py) out of: BaseMy -/
import Derived.Test.YtnceobnglofnmaaKmpm6
import Derived.Test.YtnceobnglofnmaaKmpm7
section
/- What the statements' prints of the mixing take as given. -/
end
