/- Contracts of the functions on labels, of the program and of the reference: flow, join, meet. Each computes its plain function and makes at most new blocks. No condition (the inner ones: marks from 0 to 3). -/
import Derived.Test.YtehnnnopjghbpaaDoorOk
import Derived.Deep.QuietTactic
import Derived.BigQuiet
import Derived.StillTailTactics
namespace Go.Proofs.YtehnnnopjghbpaaDoor
set_option maxRecDepth 100000
open Go.RowKit
set_option linter.unusedVariables false

end Go.Proofs.YtehnnnopjghbpaaDoor
