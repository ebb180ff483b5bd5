/- Joined by a program of this session (pack.py) out of: BaseMy -/
import Derived.Test.YtnceobnglofnmaaKmk7
import Derived.Test.YtnceobnglofnmaaKmk8
section
/- What the statements' prints of the mixing take as given. -/
end
