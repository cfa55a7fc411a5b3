/- decode.of, instruction by instruction (23 to 40). -/
import Derived.Test.YtlfnddmncbkjaacDoorZMA
namespace Go.Proofs.YtlfnddmncbkjaacDoor.W
set_option linter.unusedVariables false
set_option linter.unusedSimpArgs false
open Go.RowKit Fb
set_option maxRecDepth 100000 in
set_option maxHeartbeats 1000000 in
theorem of_lit23 (w : World) :
    Calls Tryd.prog 22 #[.int .i64 23] w fun e w' => e = .returned (.tuple #[.agg (kcells (kindOf 23)), .bool true]) ∧ Below w.heap.size w w' := by
  go_enter Tryd.func22, Tryd.ntmps22
  go_wp2_with go_in
  exact bodyPost_ret (v := .tuple #[.agg #[.int .i64 2, .int .u32 19, .int .u32 6, .int .u32 0], .bool true]) (by simp [results, Tryd.results22, go_sem]) rfl ⟨rfl, by go_grown⟩
set_option maxRecDepth 100000 in
set_option maxHeartbeats 1000000 in
theorem of_lit24 (w : World) :
    Calls Tryd.prog 22 #[.int .i64 24] w fun e w' => e = .returned (.tuple #[.agg (kcells (kindOf 24)), .bool true]) ∧ Below w.heap.size w w' := by
  go_enter Tryd.func22, Tryd.ntmps22
  go_wp2_with go_in
  exact bodyPost_ret (v := .tuple #[.agg #[.int .i64 2, .int .u32 19, .int .u32 7, .int .u32 0], .bool true]) (by simp [results, Tryd.results22, go_sem]) rfl ⟨rfl, by go_grown⟩
set_option maxRecDepth 100000 in
set_option maxHeartbeats 1000000 in
theorem of_lit25 (w : World) :
    Calls Tryd.prog 22 #[.int .i64 25] w fun e w' => e = .returned (.tuple #[.agg (kcells (kindOf 25)), .bool true]) ∧ Below w.heap.size w w' := by
  go_enter Tryd.func22, Tryd.ntmps22
  go_wp2_with go_in
  exact bodyPost_ret (v := .tuple #[.agg #[.int .i64 3, .int .u32 19, .int .u32 1, .int .u32 0], .bool true]) (by simp [results, Tryd.results22, go_sem]) rfl ⟨rfl, by go_grown⟩
set_option maxRecDepth 100000 in
set_option maxHeartbeats 1000000 in
theorem of_lit26 (w : World) :
    Calls Tryd.prog 22 #[.int .i64 26] w fun e w' => e = .returned (.tuple #[.agg (kcells (kindOf 26)), .bool true]) ∧ Below w.heap.size w w' := by
  go_enter Tryd.func22, Tryd.ntmps22
  go_wp2_with go_in
  exact bodyPost_ret (v := .tuple #[.agg #[.int .i64 3, .int .u32 19, .int .u32 5, .int .u32 0], .bool true]) (by simp [results, Tryd.results22, go_sem]) rfl ⟨rfl, by go_grown⟩
set_option maxRecDepth 100000 in
set_option maxHeartbeats 1000000 in
theorem of_lit27 (w : World) :
    Calls Tryd.prog 22 #[.int .i64 27] w fun e w' => e = .returned (.tuple #[.agg (kcells (kindOf 27)), .bool true]) ∧ Below w.heap.size w w' := by
  go_enter Tryd.func22, Tryd.ntmps22
  go_wp2_with go_in
  exact bodyPost_ret (v := .tuple #[.agg #[.int .i64 3, .int .u32 19, .int .u32 5, .int .u32 32], .bool true]) (by simp [results, Tryd.results22, go_sem]) rfl ⟨rfl, by go_grown⟩
set_option maxRecDepth 100000 in
set_option maxHeartbeats 1000000 in
theorem of_lit28 (w : World) :
    Calls Tryd.prog 22 #[.int .i64 28] w fun e w' => e = .returned (.tuple #[.agg (kcells (kindOf 28)), .bool true]) ∧ Below w.heap.size w w' := by
  go_enter Tryd.func22, Tryd.ntmps22
  go_wp2_with go_in
  exact bodyPost_ret (v := .tuple #[.agg #[.int .i64 6, .int .u32 51, .int .u32 0, .int .u32 0], .bool true]) (by simp [results, Tryd.results22, go_sem]) rfl ⟨rfl, by go_grown⟩
set_option maxRecDepth 100000 in
set_option maxHeartbeats 1000000 in
theorem of_lit29 (w : World) :
    Calls Tryd.prog 22 #[.int .i64 29] w fun e w' => e = .returned (.tuple #[.agg (kcells (kindOf 29)), .bool true]) ∧ Below w.heap.size w w' := by
  go_enter Tryd.func22, Tryd.ntmps22
  go_wp2_with go_in
  exact bodyPost_ret (v := .tuple #[.agg #[.int .i64 6, .int .u32 51, .int .u32 0, .int .u32 32], .bool true]) (by simp [results, Tryd.results22, go_sem]) rfl ⟨rfl, by go_grown⟩
set_option maxRecDepth 100000 in
set_option maxHeartbeats 1000000 in
theorem of_lit30 (w : World) :
    Calls Tryd.prog 22 #[.int .i64 30] w fun e w' => e = .returned (.tuple #[.agg (kcells (kindOf 30)), .bool true]) ∧ Below w.heap.size w w' := by
  go_enter Tryd.func22, Tryd.ntmps22
  go_wp2_with go_in
  exact bodyPost_ret (v := .tuple #[.agg #[.int .i64 6, .int .u32 51, .int .u32 1, .int .u32 0], .bool true]) (by simp [results, Tryd.results22, go_sem]) rfl ⟨rfl, by go_grown⟩
set_option maxRecDepth 100000 in
set_option maxHeartbeats 1000000 in
theorem of_lit31 (w : World) :
    Calls Tryd.prog 22 #[.int .i64 31] w fun e w' => e = .returned (.tuple #[.agg (kcells (kindOf 31)), .bool true]) ∧ Below w.heap.size w w' := by
  go_enter Tryd.func22, Tryd.ntmps22
  go_wp2_with go_in
  exact bodyPost_ret (v := .tuple #[.agg #[.int .i64 6, .int .u32 51, .int .u32 2, .int .u32 0], .bool true]) (by simp [results, Tryd.results22, go_sem]) rfl ⟨rfl, by go_grown⟩
set_option maxRecDepth 100000 in
set_option maxHeartbeats 1000000 in
theorem of_lit32 (w : World) :
    Calls Tryd.prog 22 #[.int .i64 32] w fun e w' => e = .returned (.tuple #[.agg (kcells (kindOf 32)), .bool true]) ∧ Below w.heap.size w w' := by
  go_enter Tryd.func22, Tryd.ntmps22
  go_wp2_with go_in
  exact bodyPost_ret (v := .tuple #[.agg #[.int .i64 6, .int .u32 51, .int .u32 3, .int .u32 0], .bool true]) (by simp [results, Tryd.results22, go_sem]) rfl ⟨rfl, by go_grown⟩
set_option maxRecDepth 100000 in
set_option maxHeartbeats 1000000 in
theorem of_lit33 (w : World) :
    Calls Tryd.prog 22 #[.int .i64 33] w fun e w' => e = .returned (.tuple #[.agg (kcells (kindOf 33)), .bool true]) ∧ Below w.heap.size w w' := by
  go_enter Tryd.func22, Tryd.ntmps22
  go_wp2_with go_in
  exact bodyPost_ret (v := .tuple #[.agg #[.int .i64 6, .int .u32 51, .int .u32 4, .int .u32 0], .bool true]) (by simp [results, Tryd.results22, go_sem]) rfl ⟨rfl, by go_grown⟩
set_option maxRecDepth 100000 in
set_option maxHeartbeats 1000000 in
theorem of_lit34 (w : World) :
    Calls Tryd.prog 22 #[.int .i64 34] w fun e w' => e = .returned (.tuple #[.agg (kcells (kindOf 34)), .bool true]) ∧ Below w.heap.size w w' := by
  go_enter Tryd.func22, Tryd.ntmps22
  go_wp2_with go_in
  exact bodyPost_ret (v := .tuple #[.agg #[.int .i64 6, .int .u32 51, .int .u32 5, .int .u32 0], .bool true]) (by simp [results, Tryd.results22, go_sem]) rfl ⟨rfl, by go_grown⟩
set_option maxRecDepth 100000 in
set_option maxHeartbeats 1000000 in
theorem of_lit35 (w : World) :
    Calls Tryd.prog 22 #[.int .i64 35] w fun e w' => e = .returned (.tuple #[.agg (kcells (kindOf 35)), .bool true]) ∧ Below w.heap.size w w' := by
  go_enter Tryd.func22, Tryd.ntmps22
  go_wp2_with go_in
  exact bodyPost_ret (v := .tuple #[.agg #[.int .i64 6, .int .u32 51, .int .u32 5, .int .u32 32], .bool true]) (by simp [results, Tryd.results22, go_sem]) rfl ⟨rfl, by go_grown⟩
set_option maxRecDepth 100000 in
set_option maxHeartbeats 1000000 in
theorem of_lit36 (w : World) :
    Calls Tryd.prog 22 #[.int .i64 36] w fun e w' => e = .returned (.tuple #[.agg (kcells (kindOf 36)), .bool true]) ∧ Below w.heap.size w w' := by
  go_enter Tryd.func22, Tryd.ntmps22
  go_wp2_with go_in
  exact bodyPost_ret (v := .tuple #[.agg #[.int .i64 6, .int .u32 51, .int .u32 6, .int .u32 0], .bool true]) (by simp [results, Tryd.results22, go_sem]) rfl ⟨rfl, by go_grown⟩
set_option maxRecDepth 100000 in
set_option maxHeartbeats 1000000 in
theorem of_lit37 (w : World) :
    Calls Tryd.prog 22 #[.int .i64 37] w fun e w' => e = .returned (.tuple #[.agg (kcells (kindOf 37)), .bool true]) ∧ Below w.heap.size w w' := by
  go_enter Tryd.func22, Tryd.ntmps22
  go_wp2_with go_in
  exact bodyPost_ret (v := .tuple #[.agg #[.int .i64 6, .int .u32 51, .int .u32 7, .int .u32 0], .bool true]) (by simp [results, Tryd.results22, go_sem]) rfl ⟨rfl, by go_grown⟩
set_option maxRecDepth 100000 in
set_option maxHeartbeats 1000000 in
theorem of_lit38 (w : World) :
    Calls Tryd.prog 22 #[.int .i64 38] w fun e w' => e = .returned (.tuple #[.agg (kcells (kindOf 38)), .bool true]) ∧ Below w.heap.size w w' := by
  go_enter Tryd.func22, Tryd.ntmps22
  go_wp2_with go_in
  exact bodyPost_ret (v := .tuple #[.agg #[.int .i64 6, .int .u32 51, .int .u32 0, .int .u32 1], .bool true]) (by simp [results, Tryd.results22, go_sem]) rfl ⟨rfl, by go_grown⟩
set_option maxRecDepth 100000 in
set_option maxHeartbeats 1000000 in
theorem of_lit39 (w : World) :
    Calls Tryd.prog 22 #[.int .i64 39] w fun e w' => e = .returned (.tuple #[.agg (kcells (kindOf 39)), .bool true]) ∧ Below w.heap.size w w' := by
  go_enter Tryd.func22, Tryd.ntmps22
  go_wp2_with go_in
  exact bodyPost_ret (v := .tuple #[.agg #[.int .i64 6, .int .u32 51, .int .u32 1, .int .u32 1], .bool true]) (by simp [results, Tryd.results22, go_sem]) rfl ⟨rfl, by go_grown⟩
set_option maxRecDepth 100000 in
set_option maxHeartbeats 1000000 in
theorem of_lit40 (w : World) :
    Calls Tryd.prog 22 #[.int .i64 40] w fun e w' => e = .returned (.tuple #[.agg (kcells (kindOf 40)), .bool true]) ∧ Below w.heap.size w w' := by
  go_enter Tryd.func22, Tryd.ntmps22
  go_wp2_with go_in
  exact bodyPost_ret (v := .tuple #[.agg #[.int .i64 6, .int .u32 51, .int .u32 2, .int .u32 1], .bool true]) (by simp [results, Tryd.results22, go_sem]) rfl ⟨rfl, by go_grown⟩
end Go.Proofs.YtlfnddmncbkjaacDoor.W
