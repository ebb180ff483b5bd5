/- Joined by a program of this session (pack.py) out of: BaseMy BaseMz -/
import Derived.Test.YtnceobnglofnmaaKmps6
import Derived.Test.YtnceobnglofnmaaKmps7
section
/- What the statements' prints of the mixing take as given. -/
end
section
/- What the prints of the pilot take as given. -/
end
