/- Joined by a program of this session (pack.py) out of: BaseMy -/
import Derived.Test.YtnceobnglofnmaaKmo7
import Derived.Test.YtnceobnglofnmaaKmo8
section
/- What the statements' prints of the mixing take as given. -/
end
