/- Package walk: what the functions answer. -/
import Derived.Test.YtkpdkigkhbkfiaaPlB
import Derived.Test.YtkpdkigkhbkfiaaPgraph
import Derived.Test.YtkpdkigkhbkfiaaGwalk
namespace Go.Proofs.Ytkpdkigkhbkfiaa
open Go Go.Proofs.Ytkpdkigkhbkfiaa.Sx
set_option linter.unusedVariables false
set_option linter.unusedSimpArgs false
end Go.Proofs.Ytkpdkigkhbkfiaa
