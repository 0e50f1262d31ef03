/- Package walk: what the functions answer. -/
import Derived.Test.YtblhoelmodbifaaPlB
import Derived.Test.YtblhoelmodbifaaPgraph
import Derived.Test.YtblhoelmodbifaaGwalk
namespace Go.Proofs.Ytblhoelmodbifaa
open Go Go.Proofs.Ytblhoelmodbifaa.Sx
set_option linter.unusedVariables false
set_option linter.unusedSimpArgs false
end Go.Proofs.Ytblhoelmodbifaa
