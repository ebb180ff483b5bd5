/- Joined by a program of this session (pack.py) out of: BasePs -/
import Derived.Test.YtcdcpnhlmgmnkaaKpnm4
import Derived.Test.YtcdcpnhlmgmnkaaKpnm7
import Derived.Test.YtcdcpnhlmgmnkaaKpnm8
section
/- What the statements of the pilot take as given. -/
end
