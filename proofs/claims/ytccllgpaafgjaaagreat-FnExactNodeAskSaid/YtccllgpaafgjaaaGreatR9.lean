/- Contracts of the program's and the reference's functions, and the plain laws behind them: part 9 of 11. -/
import Derived.Test.YtccllgpaafgjaaaGreatR1
import Derived.Test.YtccllgpaafgjaaaGreatR2
import Derived.Test.YtccllgpaafgjaaaGreatR3
import Derived.Test.YtccllgpaafgjaaaGreatR5
import Derived.Test.YtccllgpaafgjaaaGreatR6
import Derived.Test.YtccllgpaafgjaaaGreatR7
import Derived.Test.YtccllgpaafgjaaaGreatR8
set_option linter.unusedVariables false
set_option linter.unusedSimpArgs false

namespace Go.Proofs.YtccllgpaafgjaaaGreat
end Go.Proofs.YtccllgpaafgjaaaGreat
