/- All equations. No condition. -/
import Derived.Test.YtdmdiingedoblaaGreatEq0
import Derived.Test.YtdmdiingedoblaaGreatEq1
