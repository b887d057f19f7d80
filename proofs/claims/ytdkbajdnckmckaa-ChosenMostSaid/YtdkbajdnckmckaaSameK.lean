/-
  The walk of conclavekeep.same.
-/
import Derived.Test.YtdkbajdnckmckaaBy2
set_option linter.unusedVariables false
set_option linter.unusedSimpArgs false
namespace Go.Proofs.Ytdkbajdnckmckaa
open Go.RowKit Go.Con

end Go.Proofs.Ytdkbajdnckmckaa
