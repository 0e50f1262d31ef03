/- Package walk: what the functions answer. -/
import Derived.Test.YtdpkdicciclobaaPlB
import Derived.Test.YtdpkdicciclobaaPgraph
import Derived.Test.YtdpkdicciclobaaGwalk
namespace Go.Proofs.Ytdpkdicciclobaa
open Go Go.Proofs.Ytdpkdicciclobaa.Sx
set_option linter.unusedVariables false
set_option linter.unusedSimpArgs false
end Go.Proofs.Ytdpkdicciclobaa
