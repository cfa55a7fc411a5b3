/- A store in place: the world behind it, and what the row of bytes then holds. No program in sight. -/
import Derived.Test.YtlfnddmncbkjaabFbMem
import Derived.Test.YtlfnddmncbkjaabFbSlice
namespace Go.Proofs.Ytlfnddmncbkjaab.Fb
set_option linter.unusedVariables false
set_option linter.unusedSimpArgs false
open Go.RowKit

theorem putW_at {W : World} {b off : Nat} {l : List Int} (h : At W b off (l.map (Value.int .u8))) (k : Nat) (x : Int) :
    ∀ m, k + m ≤ l.length → At (putW W b off k x m) b off ((lay l k x m).map (Value.int .u8))
  | 0, _ => h
  | m + 1, hm => by
    have ih := putW_at h k x m (by omega)
    rw [putW, lay, show ((k : Int) + (m : Nat)).toNat = k + m from by omega, List.map_set]
    exact ih.set (k + m) (by rw [List.length_map, lay_length]; omega) _
end Go.Proofs.Ytlfnddmncbkjaab.Fb
