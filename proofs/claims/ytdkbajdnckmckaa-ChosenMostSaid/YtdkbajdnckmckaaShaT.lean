/-
  The walk of package sha's sum.
-/
import Derived.Test.YtdkbajdnckmckaaShaW
import Derived.Test.YtdkbajdnckmckaaByt
set_option linter.unusedVariables false
set_option linter.unusedSimpArgs false
namespace Go.Proofs.Ytdkbajdnckmckaa
open Go.RowKit Go.Con

end Go.Proofs.Ytdkbajdnckmckaa
