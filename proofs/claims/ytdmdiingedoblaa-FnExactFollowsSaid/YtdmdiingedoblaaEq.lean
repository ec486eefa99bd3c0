/- All equations. No condition. -/
import Derived.Test.YtdmdiingedoblaaEq0
import Derived.Test.YtdmdiingedoblaaEq1
