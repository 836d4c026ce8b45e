/- Contracts of the program's and the reference's functions, and the plain laws behind them: part 9 of 13. -/
import Derived.Test.YtljfoglilggkjaaGreatM1
import Derived.Test.YtljfoglilggkjaaGreatM2
import Derived.Test.YtljfoglilggkjaaGreatM3
import Derived.Test.YtljfoglilggkjaaGreatM5
import Derived.Test.YtljfoglilggkjaaGreatM6
import Derived.Test.YtljfoglilggkjaaGreatM7
import Derived.Test.YtljfoglilggkjaaGreatM8
set_option linter.unusedVariables false
set_option linter.unusedSimpArgs false
set_option maxHeartbeats 64000000
set_option maxRecDepth 10000
namespace Go.Proofs.YtljfoglilggkjaaGreat
end Go.Proofs.YtljfoglilggkjaaGreat
