/- Joined by a program of this session (pack.py) out of: BaseOs -/
import Derived.Test.YtcdcpnhlmgmnkaaDoorKoo5
import Derived.Test.YtcdcpnhlmgmnkaaDoorKoo6
import Derived.Test.YtcdcpnhlmgmnkaaDoorKoo7
section
/- What the prints of Sum take as given. -/
end
