/- What functions of the program answer, walked; begun as a printed text, changed by wip/mend.py. No condition. -/
import Derived.Test.YtbiobflmkicjnaaPFnExactSureOfx0
import Derived.Test.YtbiobflmkicjnaaPFnExactSureOfx1
import Derived.Test.YtbiobflmkicjnaaPFnExactSureOfx2
import Derived.Test.YtbiobflmkicjnaaPFnExactSureOfx3
import Derived.Test.YtbiobflmkicjnaaQFnExactSureOfx4
import Derived.Test.YtbiobflmkicjnaaQFnExactSureOfx5
import Derived.Test.YtbiobflmkicjnaaPFnExactSureOfx6
import Derived.Test.YtbiobflmkicjnaaQFnExactSureOfx7
namespace Go.Proofs.Ytbiobflmkicjnaa.PFnExactSureOf
open Go.RowKit Go.Proofs.YtbiobflmkicjnaaW.PrintWords Go.Proofs.YtbiobflmkicjnaaW.PrintLast Go.Proofs.YtbiobflmkicjnaaW.PrintMore
attribute [local go_sem] max2_int min2_int max_two min_two max_three min_three max_four min_four   -- for this text's walks alone
set_option linter.unusedVariables false
set_option linter.unusedSimpArgs false

end Go.Proofs.Ytbiobflmkicjnaa.PFnExactSureOf
