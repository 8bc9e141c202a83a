/- From what the arguments read as to what the laws need. -/
import Derived.Test.YtakkacdhlocckaaQ18
import Derived.Test.YtakkacdhlocckaaM6a
namespace Go.Proofs.Ytakkacdhlocckaa.Q18
open Go Go.RowKit Go.X Go.D
end Go.Proofs.Ytakkacdhlocckaa.Q18
