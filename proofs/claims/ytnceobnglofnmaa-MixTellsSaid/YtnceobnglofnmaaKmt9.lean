/- Joined by a program of this session (pack.py) out of: BaseMy -/
import Derived.Test.YtnceobnglofnmaaKmt7
import Derived.Test.YtnceobnglofnmaaKmt8
section
/- What the statements' prints of the mixing take as given. -/
end
