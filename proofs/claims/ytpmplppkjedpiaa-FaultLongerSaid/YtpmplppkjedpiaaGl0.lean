/-
  Nothing is taken of the package-level variables.
-/
import Derived.Test.YtpmplppkjedpiaaProg
import Derived.Test.YtpmplppkjedpiaaSymN
namespace Go.Proofs.Ytpmplppkjedpiaa
instance : Glob Try.prog := ⟨fun _ => True, fun _ _ _ _ => trivial⟩
end Go.Proofs.Ytpmplppkjedpiaa
