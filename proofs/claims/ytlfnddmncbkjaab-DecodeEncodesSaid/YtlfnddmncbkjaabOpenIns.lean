/- An instruction as an argument reads. -/
import Derived.Test.YtlfnddmncbkjaabReads
import Derived.Test.YtlfnddmncbkjaabOpen
import Derived.Test.YtlfnddmncbkjaabFbEnc3
namespace Go.Proofs.Ytlfnddmncbkjaab.RowB
set_option linter.unusedVariables false
set_option linter.unusedSimpArgs false
open Go.ChangeShapes Go.WideShapes Go.ChangeAt Go.RowKit Fb
section
variable {H : Type} {enc : TypeId × Value → H} {W : World}
theorem opens_ins : Opens enc Try.prog W 38 ilist (fun i => i.Wf) := by
  have h := opens_struct (enc := enc) (P := Try.prog) (W := W) (l := [(3, 1), (3, 1), (3, 1), (3, 1), (21, 1)]) Try.underlying38 (by kernel_rfl) (by kernel_rfl) (by kernel_rfl) (by kernel_rfl)
    (opensL_cons (opens_int Try.underlying3) (opensL_cons (opens_int Try.underlying3) (opensL_cons (opens_int Try.underlying3) (opensL_cons (opens_int Try.underlying3) (opensL_cons (opens_int Try.underlying21) opensL_nil)))))
  refine h.map (fun p => ⟨p.1, p.2.1, p.2.2.1, p.2.2.2.1, p.2.2.2.2.1⟩) ?_
  rintro ⟨a, b, c, d, e, u⟩ ⟨h1, h2, h3, h4, h5, _⟩
  exact ⟨rfl, ⟨wf_i64 h1, wf_i64 h2, wf_i64 h3, wf_i64 h4, wf_i32 h5⟩⟩
end
end Go.Proofs.Ytlfnddmncbkjaab.RowB
