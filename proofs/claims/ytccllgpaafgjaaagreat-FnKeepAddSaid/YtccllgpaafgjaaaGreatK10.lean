/- Contracts of the program's and the reference's functions, and the plain laws behind them: part 10 of 13. -/
import Derived.Test.YtccllgpaafgjaaaGreatK1
import Derived.Test.YtccllgpaafgjaaaGreatK2
import Derived.Test.YtccllgpaafgjaaaGreatK3
import Derived.Test.YtccllgpaafgjaaaGreatK4
import Derived.Test.YtccllgpaafgjaaaGreatK6
import Derived.Test.YtccllgpaafgjaaaGreatK7
import Derived.Test.YtccllgpaafgjaaaGreatK8
import Derived.Test.YtccllgpaafgjaaaGreatK9
set_option linter.unusedVariables false
set_option linter.unusedSimpArgs false

namespace Go.Proofs.YtccllgpaafgjaaaGreat
end Go.Proofs.YtccllgpaafgjaaaGreat
