/- All equations. No condition. -/
import Derived.Test.YtffloigfgjoimaaEq0
