/- All equations. No condition. -/
import Derived.Test.YtjmmcnbhnaeieaaEq0
import Derived.Test.YtjmmcnbhnaeieaaEq1
