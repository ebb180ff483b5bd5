/- Joined by a program of this session (pack.py) out of: BaseCr -/
import Derived.Test.YtcdcpnhlmgmnkaaDoorKcgo8
import Derived.Test.YtcdcpnhlmgmnkaaDoorKcgo9
section
/- What the print of the reference's Text takes as given. -/
end
