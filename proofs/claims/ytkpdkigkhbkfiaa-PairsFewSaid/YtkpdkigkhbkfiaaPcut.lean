/- Package cut: Cap. -/
import Derived.Test.YtkpdkigkhbkfiaaPmore
import Derived.Test.YtkpdkigkhbkfiaaPbits
import Derived.Test.YtkpdkigkhbkfiaaGcut
import Derived.Test.YtkpdkigkhbkfiaaGkeep
namespace Go.Proofs.Ytkpdkigkhbkfiaa
open Go Go.Proofs.Ytkpdkigkhbkfiaa.Sx
set_option linter.unusedVariables false
set_option linter.unusedSimpArgs false
/-- side tells a side of a net -/
structure Side (n : Net) (side : Int) : Prop where
  net : OkNet n
  hi : Int.fdiv side (2 ^ min n.n.toNat 16) = 0
  s : bit side n.s = 1
  t : bit side n.t = 0
theorem Side.cut {n : Net} {side : Int} (h : Side n side) : Cut n (bit side) := ⟨h.s, h.t, bit01 side⟩
end Go.Proofs.Ytkpdkigkhbkfiaa
