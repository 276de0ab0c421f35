/-
  Numbers in range.
-/
import Derived.Test.YtmaocifplceopaaDoorK04
import Derived.Test.YtmaocifplceopaaDoorLp
namespace Go.Proofs.YtmaocifplceopaaDoor
theorem wrJ {z : Int} (h1 : -9223372036854775808 ≤ z) (h2 : z < 9223372036854775808) : IntKind.i64.wrap z = z := by rw [IntKind.wrap_i64]; omega
end Go.Proofs.YtmaocifplceopaaDoor
