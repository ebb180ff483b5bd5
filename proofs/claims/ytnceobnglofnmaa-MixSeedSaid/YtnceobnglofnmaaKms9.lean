/- Joined by a program of this session (pack.py) out of: BaseMy -/
import Derived.Test.YtnceobnglofnmaaKms7
import Derived.Test.YtnceobnglofnmaaKms8
section
/- What the statements' prints of the mixing take as given. -/
end
