import Derived.Test.YtlfnddmncbkjaacZGA
import Derived.Test.YtlfnddmncbkjaacZMB
set_option linter.unusedVariables false
set_option linter.unusedSimpArgs false
set_option maxRecDepth 100000
set_option maxHeartbeats 4000000
namespace Go.Proofs.Ytlfnddmncbkjaac.W
open Go.RowKit Fb
theorem signed1s (a sa : Int) (w : World) (h : Hid (sa = wrap32 a)) (hu : Hid (U32 a)) : Calls Try.prog 66 #[.int .u32 a] w fun e w' => e = .returned (.int .i64 sa) ∧ w = w' := by
  rw [h.out]; exact signed1 a w hu.out
theorem power1h (n P : Int) (w : World) (h : Hid (0 ≤ n ∧ n ≤ 32 ∧ P = ((2 ^ n.toNat : Nat) : Int))) :
    Calls Try.prog 79 #[.int .i64 n] w fun e w' => e = .returned (.int .i64 P) ∧ w = w' := by
  rw [h.out.2.2]; exact power1 n w ⟨h.out.1, h.out.2.1⟩
end Go.Proofs.Ytlfnddmncbkjaac.W
