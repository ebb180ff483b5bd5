/- Joined by a program of this session (pack.py) out of: BaseOs -/
import Derived.Test.YtcdcpnhlmgmnkaaDoorKon5
import Derived.Test.YtcdcpnhlmgmnkaaDoorKon6
import Derived.Test.YtcdcpnhlmgmnkaaDoorKon7
section
/- What the prints of Sum take as given. -/
end
