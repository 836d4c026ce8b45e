/- Contracts of the program's and the reference's functions, and the plain laws behind them: part 9 of 12. -/
import Derived.Test.YtccllgpaafgjaaaGreatZ1
import Derived.Test.YtccllgpaafgjaaaGreatZ2
import Derived.Test.YtccllgpaafgjaaaGreatZ3
import Derived.Test.YtccllgpaafgjaaaGreatZ5
import Derived.Test.YtccllgpaafgjaaaGreatZ6
import Derived.Test.YtccllgpaafgjaaaGreatZ7
import Derived.Test.YtccllgpaafgjaaaGreatZ8
set_option linter.unusedVariables false
set_option linter.unusedSimpArgs false

namespace Go.Proofs.YtccllgpaafgjaaaGreat
end Go.Proofs.YtccllgpaafgjaaaGreat
