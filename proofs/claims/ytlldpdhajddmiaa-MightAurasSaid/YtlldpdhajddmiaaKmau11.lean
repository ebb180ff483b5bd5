/- Joined by a program of this session (pack.py) out of: BaseMt -/
import Derived.Test.YtlldpdhajddmiaaKmau6
import Derived.Test.YtlldpdhajddmiaaKmau9
import Derived.Test.YtlldpdhajddmiaaKmau10
section
/- What the statements of might take as given. -/
end
