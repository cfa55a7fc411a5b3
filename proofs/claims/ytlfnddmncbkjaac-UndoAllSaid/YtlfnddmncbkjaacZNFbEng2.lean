import Derived.Test.YtlfnddmncbkjaacZGB
import Derived.Test.YtlfnddmncbkjaacZNFbSteps8b
set_option linter.unusedVariables false
set_option linter.unusedSimpArgs false
set_option maxRecDepth 100000
set_option maxHeartbeats 4000000
namespace Go.Proofs.Ytlfnddmncbkjaac.Fb
open Go.RowKit
theorem goS_mem8 {d : CoreD} (wf : d.Wf) : Mem8 d.m (goS d) := by
  unfold goS
  split
  · exact doS_mem8 d.none (fun k => (reg_u wf.h k).1) _
  · exact .inl rfl
end Go.Proofs.Ytlfnddmncbkjaac.Fb
