/-
  The words and the signs: the walk has shown it.
-/
import Derived.Test.YtnbfkinebikneaaXTokenNames
namespace Go.Proofs.Ytnbfkinebikneaa.Pure
open Go.Proofs.Ytnbfkinebikneaa.PA
theorem TokenNames : recouplaw09_TokenNames.PureS := rfl
end Go.Proofs.Ytnbfkinebikneaa.Pure
