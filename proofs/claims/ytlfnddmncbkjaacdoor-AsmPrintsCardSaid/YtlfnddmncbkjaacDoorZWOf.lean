/- decode.of, whole. -/
import Derived.Test.YtlfnddmncbkjaacDoorZWOf1
import Derived.Test.YtlfnddmncbkjaacDoorZWOf2
import Derived.Test.YtlfnddmncbkjaacDoorZWOf3
namespace Go.Proofs.YtlfnddmncbkjaacDoor.W
set_option linter.unusedVariables false
set_option linter.unusedSimpArgs false
open Go.RowKit Fb
set_option maxRecDepth 100000 in
set_option maxHeartbeats 1000000 in
theorem of_no (op : Int) (w : World) (h : op < 1 ∨ 59 < op) :
    Calls Tryd.prog 22 #[.int .i64 op] w fun e w' => e = .returned (.tuple #[.agg (kcells (kindOf op)), .bool false]) ∧ Below w.heap.size w w' := by
  have hk : kindOf op = ⟨0, 0, 0, 0⟩ := by unfold kindOf knownOp; rw [if_neg (by simp; omega)]
  rw [hk]
  clear hk
  have f : ∀ c : Int, 1 ≤ c → c ≤ 59 → (op == c) = false := fun c h1 h2 => by simpa using (by omega : op ≠ c)
  have f1 := f 1 (by omega) (by omega)
  have f2 := f 2 (by omega) (by omega)
  have f3 := f 3 (by omega) (by omega)
  have f4 := f 4 (by omega) (by omega)
  have f25 := f 25 (by omega) (by omega)
  have f26 := f 26 (by omega) (by omega)
  have f27 := f 27 (by omega) (by omega)
  have f29 := f 29 (by omega) (by omega)
  have f35 := f 35 (by omega) (by omega)
  have f57 := f 57 (by omega) (by omega)
  have f58 := f 58 (by omega) (by omega)
  have f59 := f 59 (by omega) (by omega)
  clear f
  rcases h with h | h
  all_goals
    go_enter Tryd.func22, Tryd.ntmps22
    go_wp2_with go_in
    exact bodyPost_ret (v := .tuple #[.agg #[.int .i64 0, .int .u32 0, .int .u32 0, .int .u32 0], .bool false]) (by simp [results, Tryd.results22, go_sem]) rfl ⟨rfl, by go_grown⟩
theorem of_any (op : Int) (w : World) :
    Calls Tryd.prog 22 #[.int .i64 op] w fun e w' => e = .returned (.tuple #[.agg (kcells (kindOf op)), .bool (knownOp op)]) ∧ Below w.heap.size w w' := by
  by_cases h : op < 1 ∨ 59 < op
  · rw [show knownOp op = false from by unfold knownOp; simp; omega]
    exact of_no op w h
  · rw [show knownOp op = true from by unfold knownOp; simp; omega]
    have hc : op = 1 ∨ op = 2 ∨ op = 3 ∨ op = 4 ∨ op = 5 ∨ op = 6 ∨ op = 7 ∨ op = 8 ∨ op = 9 ∨ op = 10 ∨ op = 11 ∨ op = 12 ∨ op = 13 ∨ op = 14 ∨ op = 15 ∨ op = 16 ∨ op = 17 ∨ op = 18 ∨ op = 19 ∨ op = 20 ∨ op = 21 ∨ op = 22 ∨ op = 23 ∨ op = 24 ∨ op = 25 ∨ op = 26 ∨ op = 27 ∨ op = 28 ∨ op = 29 ∨ op = 30 ∨ op = 31 ∨ op = 32 ∨ op = 33 ∨ op = 34 ∨ op = 35 ∨ op = 36 ∨ op = 37 ∨ op = 38 ∨ op = 39 ∨ op = 40 ∨ op = 41 ∨ op = 42 ∨ op = 43 ∨ op = 44 ∨ op = 45 ∨ op = 46 ∨ op = 47 ∨ op = 48 ∨ op = 49 ∨ op = 50 ∨ op = 51 ∨ op = 52 ∨ op = 53 ∨ op = 54 ∨ op = 55 ∨ op = 56 ∨ op = 57 ∨ op = 58 ∨ op = 59 := by omega
    rcases hc with rfl | rfl | rfl | rfl | rfl | rfl | rfl | rfl | rfl | rfl | rfl | rfl | rfl | rfl | rfl | rfl | rfl | rfl | rfl | rfl | rfl | rfl | rfl | rfl | rfl | rfl | rfl | rfl | rfl | rfl | rfl | rfl | rfl | rfl | rfl | rfl | rfl | rfl | rfl | rfl | rfl | rfl | rfl | rfl | rfl | rfl | rfl | rfl | rfl | rfl | rfl | rfl | rfl | rfl | rfl | rfl | rfl | rfl | rfl
    · exact of_lit1 w
    · exact of_lit2 w
    · exact of_lit3 w
    · exact of_lit4 w
    · exact of_lit5 w
    · exact of_lit6 w
    · exact of_lit7 w
    · exact of_lit8 w
    · exact of_lit9 w
    · exact of_lit10 w
    · exact of_lit11 w
    · exact of_lit12 w
    · exact of_lit13 w
    · exact of_lit14 w
    · exact of_lit15 w
    · exact of_lit16 w
    · exact of_lit17 w
    · exact of_lit18 w
    · exact of_lit19 w
    · exact of_lit20 w
    · exact of_lit21 w
    · exact of_lit22 w
    · exact of_lit23 w
    · exact of_lit24 w
    · exact of_lit25 w
    · exact of_lit26 w
    · exact of_lit27 w
    · exact of_lit28 w
    · exact of_lit29 w
    · exact of_lit30 w
    · exact of_lit31 w
    · exact of_lit32 w
    · exact of_lit33 w
    · exact of_lit34 w
    · exact of_lit35 w
    · exact of_lit36 w
    · exact of_lit37 w
    · exact of_lit38 w
    · exact of_lit39 w
    · exact of_lit40 w
    · exact of_lit41 w
    · exact of_lit42 w
    · exact of_lit43 w
    · exact of_lit44 w
    · exact of_lit45 w
    · exact of_lit46 w
    · exact of_lit47 w
    · exact of_lit48 w
    · exact of_lit49 w
    · exact of_lit50 w
    · exact of_lit51 w
    · exact of_lit52 w
    · exact of_lit53 w
    · exact of_lit54 w
    · exact of_lit55 w
    · exact of_lit56 w
    · exact of_lit57 w
    · exact of_lit58 w
    · exact of_lit59 w
end Go.Proofs.YtlfnddmncbkjaacDoor.W
