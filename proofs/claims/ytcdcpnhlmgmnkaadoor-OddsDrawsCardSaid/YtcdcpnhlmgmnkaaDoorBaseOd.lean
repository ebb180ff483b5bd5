/- What the print of OddsDraws takes as given: the code and the document. -/
import Derived.Test.YtcdcpnhlmgmnkaaDoorBaseOl
import Derived.Test.YtcdcpnhlmgmnkaaDoorPodrx2
