/- Joined by a program of this session (pack.py) out of: BasePt -/
import Derived.Test.YtcdcpnhlmgmnkaaKpnm10
section
/- What the statements of the pilot take as given, lives too. -/
end
