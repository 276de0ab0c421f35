/-
  Nothing is taken of the package-level variables.
-/
import Derived.Test.YtgekeolponbifaaProg
import Derived.Test.YtgekeolponbifaaSymN
namespace Go.Proofs.Ytgekeolponbifaa
instance : Glob Try.prog := ⟨fun _ => True, fun _ _ _ _ => trivial⟩
end Go.Proofs.Ytgekeolponbifaa
