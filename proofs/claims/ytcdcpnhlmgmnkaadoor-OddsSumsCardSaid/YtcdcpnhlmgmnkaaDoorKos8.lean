/- Joined by a program of this session (pack.py) out of: BaseOs -/
import Derived.Test.YtcdcpnhlmgmnkaaDoorKos5
import Derived.Test.YtcdcpnhlmgmnkaaDoorKos6
import Derived.Test.YtcdcpnhlmgmnkaaDoorKos7
section
/- What the prints of Sum take as given. -/
end
