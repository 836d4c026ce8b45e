/- Contracts of the program's and the reference's functions, and the plain laws behind them: part 9 of 12. -/
import Derived.Test.YtccllgpaafgjaaaGreatS1
import Derived.Test.YtccllgpaafgjaaaGreatS2
import Derived.Test.YtccllgpaafgjaaaGreatS3
import Derived.Test.YtccllgpaafgjaaaGreatS5
import Derived.Test.YtccllgpaafgjaaaGreatS6
import Derived.Test.YtccllgpaafgjaaaGreatS7
import Derived.Test.YtccllgpaafgjaaaGreatS8
set_option linter.unusedVariables false
set_option linter.unusedSimpArgs false

namespace Go.Proofs.YtccllgpaafgjaaaGreat
end Go.Proofs.YtccllgpaafgjaaaGreat
