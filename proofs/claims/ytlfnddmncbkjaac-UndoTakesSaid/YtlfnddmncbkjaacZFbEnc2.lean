import Derived.Test.YtlfnddmncbkjaacZFbEnc
set_option linter.unusedVariables false
set_option linter.unusedSimpArgs false
set_option maxRecDepth 100000
set_option maxHeartbeats 4000000
namespace Go.Proofs.Ytlfnddmncbkjaac.Fb
open Go.RowKit
end Go.Proofs.Ytlfnddmncbkjaac.Fb
