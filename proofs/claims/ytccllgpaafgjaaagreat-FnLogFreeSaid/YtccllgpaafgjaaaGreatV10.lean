/- Contracts of the program's and the reference's functions, and the plain laws behind them: part 10 of 12. -/
import Derived.Test.YtccllgpaafgjaaaGreatV1
import Derived.Test.YtccllgpaafgjaaaGreatV2
import Derived.Test.YtccllgpaafgjaaaGreatV3
import Derived.Test.YtccllgpaafgjaaaGreatV4
import Derived.Test.YtccllgpaafgjaaaGreatV6
import Derived.Test.YtccllgpaafgjaaaGreatV7
import Derived.Test.YtccllgpaafgjaaaGreatV8
import Derived.Test.YtccllgpaafgjaaaGreatV9
set_option linter.unusedVariables false
set_option linter.unusedSimpArgs false

namespace Go.Proofs.YtccllgpaafgjaaaGreat
end Go.Proofs.YtccllgpaafgjaaaGreat
