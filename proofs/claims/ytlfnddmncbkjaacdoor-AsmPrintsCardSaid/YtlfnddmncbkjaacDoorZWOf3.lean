/- decode.of, instruction by instruction (41 to 59). -/
import Derived.Test.YtlfnddmncbkjaacDoorZMA
namespace Go.Proofs.YtlfnddmncbkjaacDoor.W
set_option linter.unusedVariables false
set_option linter.unusedSimpArgs false
open Go.RowKit Fb
set_option maxRecDepth 100000 in
set_option maxHeartbeats 1000000 in
theorem of_lit41 (w : World) :
    Calls Tryd.prog 22 #[.int .i64 41] w fun e w' => e = .returned (.tuple #[.agg (kcells (kindOf 41)), .bool true]) ∧ Below w.heap.size w w' := by
  go_enter Tryd.func22, Tryd.ntmps22
  go_wp2_with go_in
  exact bodyPost_ret (v := .tuple #[.agg #[.int .i64 6, .int .u32 51, .int .u32 3, .int .u32 1], .bool true]) (by simp [results, Tryd.results22, go_sem]) rfl ⟨rfl, by go_grown⟩
set_option maxRecDepth 100000 in
set_option maxHeartbeats 1000000 in
theorem of_lit42 (w : World) :
    Calls Tryd.prog 22 #[.int .i64 42] w fun e w' => e = .returned (.tuple #[.agg (kcells (kindOf 42)), .bool true]) ∧ Below w.heap.size w w' := by
  go_enter Tryd.func22, Tryd.ntmps22
  go_wp2_with go_in
  exact bodyPost_ret (v := .tuple #[.agg #[.int .i64 6, .int .u32 51, .int .u32 4, .int .u32 1], .bool true]) (by simp [results, Tryd.results22, go_sem]) rfl ⟨rfl, by go_grown⟩
set_option maxRecDepth 100000 in
set_option maxHeartbeats 1000000 in
theorem of_lit43 (w : World) :
    Calls Tryd.prog 22 #[.int .i64 43] w fun e w' => e = .returned (.tuple #[.agg (kcells (kindOf 43)), .bool true]) ∧ Below w.heap.size w w' := by
  go_enter Tryd.func22, Tryd.ntmps22
  go_wp2_with go_in
  exact bodyPost_ret (v := .tuple #[.agg #[.int .i64 6, .int .u32 51, .int .u32 5, .int .u32 1], .bool true]) (by simp [results, Tryd.results22, go_sem]) rfl ⟨rfl, by go_grown⟩
set_option maxRecDepth 100000 in
set_option maxHeartbeats 1000000 in
theorem of_lit44 (w : World) :
    Calls Tryd.prog 22 #[.int .i64 44] w fun e w' => e = .returned (.tuple #[.agg (kcells (kindOf 44)), .bool true]) ∧ Below w.heap.size w w' := by
  go_enter Tryd.func22, Tryd.ntmps22
  go_wp2_with go_in
  exact bodyPost_ret (v := .tuple #[.agg #[.int .i64 6, .int .u32 51, .int .u32 6, .int .u32 1], .bool true]) (by simp [results, Tryd.results22, go_sem]) rfl ⟨rfl, by go_grown⟩
set_option maxRecDepth 100000 in
set_option maxHeartbeats 1000000 in
theorem of_lit45 (w : World) :
    Calls Tryd.prog 22 #[.int .i64 45] w fun e w' => e = .returned (.tuple #[.agg (kcells (kindOf 45)), .bool true]) ∧ Below w.heap.size w w' := by
  go_enter Tryd.func22, Tryd.ntmps22
  go_wp2_with go_in
  exact bodyPost_ret (v := .tuple #[.agg #[.int .i64 6, .int .u32 51, .int .u32 7, .int .u32 1], .bool true]) (by simp [results, Tryd.results22, go_sem]) rfl ⟨rfl, by go_grown⟩
set_option maxRecDepth 100000 in
set_option maxHeartbeats 1000000 in
theorem of_lit46 (w : World) :
    Calls Tryd.prog 22 #[.int .i64 46] w fun e w' => e = .returned (.tuple #[.agg (kcells (kindOf 46)), .bool true]) ∧ Below w.heap.size w w' := by
  go_enter Tryd.func22, Tryd.ntmps22
  go_wp2_with go_in
  exact bodyPost_ret (v := .tuple #[.agg #[.int .i64 7, .int .u32 47, .int .u32 2, .int .u32 2], .bool true]) (by simp [results, Tryd.results22, go_sem]) rfl ⟨rfl, by go_grown⟩
set_option maxRecDepth 100000 in
set_option maxHeartbeats 1000000 in
theorem of_lit47 (w : World) :
    Calls Tryd.prog 22 #[.int .i64 47] w fun e w' => e = .returned (.tuple #[.agg (kcells (kindOf 47)), .bool true]) ∧ Below w.heap.size w w' := by
  go_enter Tryd.func22, Tryd.ntmps22
  go_wp2_with go_in
  exact bodyPost_ret (v := .tuple #[.agg #[.int .i64 7, .int .u32 47, .int .u32 2, .int .u32 3], .bool true]) (by simp [results, Tryd.results22, go_sem]) rfl ⟨rfl, by go_grown⟩
set_option maxRecDepth 100000 in
set_option maxHeartbeats 1000000 in
theorem of_lit48 (w : World) :
    Calls Tryd.prog 22 #[.int .i64 48] w fun e w' => e = .returned (.tuple #[.agg (kcells (kindOf 48)), .bool true]) ∧ Below w.heap.size w w' := by
  go_enter Tryd.func22, Tryd.ntmps22
  go_wp2_with go_in
  exact bodyPost_ret (v := .tuple #[.agg #[.int .i64 7, .int .u32 47, .int .u32 2, .int .u32 1], .bool true]) (by simp [results, Tryd.results22, go_sem]) rfl ⟨rfl, by go_grown⟩
set_option maxRecDepth 100000 in
set_option maxHeartbeats 1000000 in
theorem of_lit49 (w : World) :
    Calls Tryd.prog 22 #[.int .i64 49] w fun e w' => e = .returned (.tuple #[.agg (kcells (kindOf 49)), .bool true]) ∧ Below w.heap.size w w' := by
  go_enter Tryd.func22, Tryd.ntmps22
  go_wp2_with go_in
  exact bodyPost_ret (v := .tuple #[.agg #[.int .i64 7, .int .u32 47, .int .u32 2, .int .u32 0], .bool true]) (by simp [results, Tryd.results22, go_sem]) rfl ⟨rfl, by go_grown⟩
set_option maxRecDepth 100000 in
set_option maxHeartbeats 1000000 in
theorem of_lit50 (w : World) :
    Calls Tryd.prog 22 #[.int .i64 50] w fun e w' => e = .returned (.tuple #[.agg (kcells (kindOf 50)), .bool true]) ∧ Below w.heap.size w w' := by
  go_enter Tryd.func22, Tryd.ntmps22
  go_wp2_with go_in
  exact bodyPost_ret (v := .tuple #[.agg #[.int .i64 7, .int .u32 47, .int .u32 2, .int .u32 4], .bool true]) (by simp [results, Tryd.results22, go_sem]) rfl ⟨rfl, by go_grown⟩
set_option maxRecDepth 100000 in
set_option maxHeartbeats 1000000 in
theorem of_lit51 (w : World) :
    Calls Tryd.prog 22 #[.int .i64 51] w fun e w' => e = .returned (.tuple #[.agg (kcells (kindOf 51)), .bool true]) ∧ Below w.heap.size w w' := by
  go_enter Tryd.func22, Tryd.ntmps22
  go_wp2_with go_in
  exact bodyPost_ret (v := .tuple #[.agg #[.int .i64 7, .int .u32 47, .int .u32 2, .int .u32 12], .bool true]) (by simp [results, Tryd.results22, go_sem]) rfl ⟨rfl, by go_grown⟩
set_option maxRecDepth 100000 in
set_option maxHeartbeats 1000000 in
theorem of_lit52 (w : World) :
    Calls Tryd.prog 22 #[.int .i64 52] w fun e w' => e = .returned (.tuple #[.agg (kcells (kindOf 52)), .bool true]) ∧ Below w.heap.size w w' := by
  go_enter Tryd.func22, Tryd.ntmps22
  go_wp2_with go_in
  exact bodyPost_ret (v := .tuple #[.agg #[.int .i64 7, .int .u32 47, .int .u32 2, .int .u32 8], .bool true]) (by simp [results, Tryd.results22, go_sem]) rfl ⟨rfl, by go_grown⟩
set_option maxRecDepth 100000 in
set_option maxHeartbeats 1000000 in
theorem of_lit53 (w : World) :
    Calls Tryd.prog 22 #[.int .i64 53] w fun e w' => e = .returned (.tuple #[.agg (kcells (kindOf 53)), .bool true]) ∧ Below w.heap.size w w' := by
  go_enter Tryd.func22, Tryd.ntmps22
  go_wp2_with go_in
  exact bodyPost_ret (v := .tuple #[.agg #[.int .i64 7, .int .u32 47, .int .u32 2, .int .u32 16], .bool true]) (by simp [results, Tryd.results22, go_sem]) rfl ⟨rfl, by go_grown⟩
set_option maxRecDepth 100000 in
set_option maxHeartbeats 1000000 in
theorem of_lit54 (w : World) :
    Calls Tryd.prog 22 #[.int .i64 54] w fun e w' => e = .returned (.tuple #[.agg (kcells (kindOf 54)), .bool true]) ∧ Below w.heap.size w w' := by
  go_enter Tryd.func22, Tryd.ntmps22
  go_wp2_with go_in
  exact bodyPost_ret (v := .tuple #[.agg #[.int .i64 7, .int .u32 47, .int .u32 2, .int .u32 20], .bool true]) (by simp [results, Tryd.results22, go_sem]) rfl ⟨rfl, by go_grown⟩
set_option maxRecDepth 100000 in
set_option maxHeartbeats 1000000 in
theorem of_lit55 (w : World) :
    Calls Tryd.prog 22 #[.int .i64 55] w fun e w' => e = .returned (.tuple #[.agg (kcells (kindOf 55)), .bool true]) ∧ Below w.heap.size w w' := by
  go_enter Tryd.func22, Tryd.ntmps22
  go_wp2_with go_in
  exact bodyPost_ret (v := .tuple #[.agg #[.int .i64 7, .int .u32 47, .int .u32 2, .int .u32 24], .bool true]) (by simp [results, Tryd.results22, go_sem]) rfl ⟨rfl, by go_grown⟩
set_option maxRecDepth 100000 in
set_option maxHeartbeats 1000000 in
theorem of_lit56 (w : World) :
    Calls Tryd.prog 22 #[.int .i64 56] w fun e w' => e = .returned (.tuple #[.agg (kcells (kindOf 56)), .bool true]) ∧ Below w.heap.size w w' := by
  go_enter Tryd.func22, Tryd.ntmps22
  go_wp2_with go_in
  exact bodyPost_ret (v := .tuple #[.agg #[.int .i64 7, .int .u32 47, .int .u32 2, .int .u32 28], .bool true]) (by simp [results, Tryd.results22, go_sem]) rfl ⟨rfl, by go_grown⟩
set_option maxRecDepth 100000 in
set_option maxHeartbeats 1000000 in
theorem of_lit57 (w : World) :
    Calls Tryd.prog 22 #[.int .i64 57] w fun e w' => e = .returned (.tuple #[.agg (kcells (kindOf 57)), .bool true]) ∧ Below w.heap.size w w' := by
  go_enter Tryd.func22, Tryd.ntmps22
  go_wp2_with go_in
  exact bodyPost_ret (v := .tuple #[.agg #[.int .i64 2, .int .u32 15, .int .u32 0, .int .u32 0], .bool true]) (by simp [results, Tryd.results22, go_sem]) rfl ⟨rfl, by go_grown⟩
set_option maxRecDepth 100000 in
set_option maxHeartbeats 1000000 in
theorem of_lit58 (w : World) :
    Calls Tryd.prog 22 #[.int .i64 58] w fun e w' => e = .returned (.tuple #[.agg (kcells (kindOf 58)), .bool true]) ∧ Below w.heap.size w w' := by
  go_enter Tryd.func22, Tryd.ntmps22
  go_wp2_with go_in
  exact bodyPost_ret (v := .tuple #[.agg #[.int .i64 8, .int .u32 115, .int .u32 0, .int .u32 0], .bool true]) (by simp [results, Tryd.results22, go_sem]) rfl ⟨rfl, by go_grown⟩
set_option maxRecDepth 100000 in
set_option maxHeartbeats 1000000 in
theorem of_lit59 (w : World) :
    Calls Tryd.prog 22 #[.int .i64 59] w fun e w' => e = .returned (.tuple #[.agg (kcells (kindOf 59)), .bool true]) ∧ Below w.heap.size w w' := by
  go_enter Tryd.func22, Tryd.ntmps22
  go_wp2_with go_in
  exact bodyPost_ret (v := .tuple #[.agg #[.int .i64 8, .int .u32 115, .int .u32 0, .int .u32 1], .bool true]) (by simp [results, Tryd.results22, go_sem]) rfl ⟨rfl, by go_grown⟩
end Go.Proofs.YtlfnddmncbkjaacDoor.W
