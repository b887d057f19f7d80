/-
  The walk of conclavekeep.same.
-/
import Derived.Test.YtocdnochnjlhlaaDoorBy2
set_option linter.unusedVariables false
set_option linter.unusedSimpArgs false
namespace Go.Proofs.YtocdnochnjlhlaaDoor
open Go.RowKit Go.Con

end Go.Proofs.YtocdnochnjlhlaaDoor
