/- Joined by a program of this session (pack.py) out of: BaseCr -/
import Derived.Test.YtcdcpnhlmgmnkaaDoorKctl8
import Derived.Test.YtcdcpnhlmgmnkaaDoorKctl9
import Derived.Test.YtcdcpnhlmgmnkaaDoorKctl10
section
/- What the print of the reference's Text takes as given. -/
end
