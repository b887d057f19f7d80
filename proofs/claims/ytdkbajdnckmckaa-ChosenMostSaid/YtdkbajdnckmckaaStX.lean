/-
  The walks of stable.Promise, stable.Vote and stable.Sync of what may not be.
-/
import Derived.Test.YtdkbajdnckmckaaStS
set_option linter.unusedVariables false
set_option linter.unusedSimpArgs false
namespace Go.Proofs.Ytdkbajdnckmckaa
open Go.RowKit Go.Con
end Go.Proofs.Ytdkbajdnckmckaa
