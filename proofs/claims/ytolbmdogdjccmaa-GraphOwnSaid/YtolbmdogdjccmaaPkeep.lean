/- The helpers of the laws: what they answer. -/
import Derived.Test.YtolbmdogdjccmaaPgraph
import Derived.Test.YtolbmdogdjccmaaGkeep
namespace Go.Proofs.Ytolbmdogdjccmaa
open Go Go.Proofs.Ytolbmdogdjccmaa.Sx
set_option linter.unusedVariables false
set_option linter.unusedSimpArgs false
theorem line_eq : weirkeep_line_F = some ⟨3, [⟨0, 1, 4⟩, ⟨1, 2, 3⟩]⟩ := by kernel_rfl
end Go.Proofs.Ytolbmdogdjccmaa
