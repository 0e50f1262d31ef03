/- Package walk: what the functions answer. -/
import Derived.Test.YthgjamhcnaamdaaPlB
import Derived.Test.YthgjamhcnaamdaaPgraph
import Derived.Test.YthgjamhcnaamdaaGwalk
namespace Go.Proofs.Ythgjamhcnaamdaa
open Go Go.Proofs.Ythgjamhcnaamdaa.Sx
set_option linter.unusedVariables false
set_option linter.unusedSimpArgs false
end Go.Proofs.Ythgjamhcnaamdaa
