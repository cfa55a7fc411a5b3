import Derived.Test.YtlfnddmncbkjaaaZFbForm
set_option linter.unusedVariables false
set_option linter.unusedSimpArgs false
set_option maxRecDepth 100000
set_option maxHeartbeats 4000000
namespace Go.Proofs.Ytlfnddmncbkjaaa.Fb
open Go.RowKit
abbrev orw (a b : Int) : Int := bits .or .u32 a b
end Go.Proofs.Ytlfnddmncbkjaaa.Fb
