/- The helpers of the laws: what they answer. -/
import Derived.Test.YtblhoelmodbifaaPgraph
import Derived.Test.YtblhoelmodbifaaGkeep
namespace Go.Proofs.Ytblhoelmodbifaa
open Go Go.Proofs.Ytblhoelmodbifaa.Sx
set_option linter.unusedVariables false
set_option linter.unusedSimpArgs false
end Go.Proofs.Ytblhoelmodbifaa
