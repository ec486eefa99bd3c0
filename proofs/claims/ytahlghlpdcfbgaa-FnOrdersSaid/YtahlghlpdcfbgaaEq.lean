/- All equations. No condition. -/
import Derived.Test.YtahlghlpdcfbgaaEq0
import Derived.Test.YtahlghlpdcfbgaaEq1
