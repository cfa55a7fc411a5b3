/- decode.of, instruction by instruction (1 to 22). -/
import Derived.Test.YtlfnddmncbkjaacDoorZMA
namespace Go.Proofs.YtlfnddmncbkjaacDoor.W
set_option linter.unusedVariables false
set_option linter.unusedSimpArgs false
open Go.RowKit Fb
set_option maxRecDepth 100000 in
set_option maxHeartbeats 1000000 in
theorem of_lit1 (w : World) :
    Calls Tryd.prog 22 #[.int .i64 1] w fun e w' => e = .returned (.tuple #[.agg (kcells (kindOf 1)), .bool true]) ∧ Below w.heap.size w w' := by
  go_enter Tryd.func22, Tryd.ntmps22
  go_wp2_with go_in
  exact bodyPost_ret (v := .tuple #[.agg #[.int .i64 0, .int .u32 55, .int .u32 0, .int .u32 0], .bool true]) (by simp [results, Tryd.results22, go_sem]) rfl ⟨rfl, by go_grown⟩
set_option maxRecDepth 100000 in
set_option maxHeartbeats 1000000 in
theorem of_lit2 (w : World) :
    Calls Tryd.prog 22 #[.int .i64 2] w fun e w' => e = .returned (.tuple #[.agg (kcells (kindOf 2)), .bool true]) ∧ Below w.heap.size w w' := by
  go_enter Tryd.func22, Tryd.ntmps22
  go_wp2_with go_in
  exact bodyPost_ret (v := .tuple #[.agg #[.int .i64 0, .int .u32 23, .int .u32 0, .int .u32 0], .bool true]) (by simp [results, Tryd.results22, go_sem]) rfl ⟨rfl, by go_grown⟩
set_option maxRecDepth 100000 in
set_option maxHeartbeats 1000000 in
theorem of_lit3 (w : World) :
    Calls Tryd.prog 22 #[.int .i64 3] w fun e w' => e = .returned (.tuple #[.agg (kcells (kindOf 3)), .bool true]) ∧ Below w.heap.size w w' := by
  go_enter Tryd.func22, Tryd.ntmps22
  go_wp2_with go_in
  exact bodyPost_ret (v := .tuple #[.agg #[.int .i64 1, .int .u32 111, .int .u32 0, .int .u32 0], .bool true]) (by simp [results, Tryd.results22, go_sem]) rfl ⟨rfl, by go_grown⟩
set_option maxRecDepth 100000 in
set_option maxHeartbeats 1000000 in
theorem of_lit4 (w : World) :
    Calls Tryd.prog 22 #[.int .i64 4] w fun e w' => e = .returned (.tuple #[.agg (kcells (kindOf 4)), .bool true]) ∧ Below w.heap.size w w' := by
  go_enter Tryd.func22, Tryd.ntmps22
  go_wp2_with go_in
  exact bodyPost_ret (v := .tuple #[.agg #[.int .i64 2, .int .u32 103, .int .u32 0, .int .u32 0], .bool true]) (by simp [results, Tryd.results22, go_sem]) rfl ⟨rfl, by go_grown⟩
set_option maxRecDepth 100000 in
set_option maxHeartbeats 1000000 in
theorem of_lit5 (w : World) :
    Calls Tryd.prog 22 #[.int .i64 5] w fun e w' => e = .returned (.tuple #[.agg (kcells (kindOf 5)), .bool true]) ∧ Below w.heap.size w w' := by
  go_enter Tryd.func22, Tryd.ntmps22
  go_wp2_with go_in
  exact bodyPost_ret (v := .tuple #[.agg #[.int .i64 4, .int .u32 99, .int .u32 0, .int .u32 0], .bool true]) (by simp [results, Tryd.results22, go_sem]) rfl ⟨rfl, by go_grown⟩
set_option maxRecDepth 100000 in
set_option maxHeartbeats 1000000 in
theorem of_lit6 (w : World) :
    Calls Tryd.prog 22 #[.int .i64 6] w fun e w' => e = .returned (.tuple #[.agg (kcells (kindOf 6)), .bool true]) ∧ Below w.heap.size w w' := by
  go_enter Tryd.func22, Tryd.ntmps22
  go_wp2_with go_in
  exact bodyPost_ret (v := .tuple #[.agg #[.int .i64 4, .int .u32 99, .int .u32 1, .int .u32 0], .bool true]) (by simp [results, Tryd.results22, go_sem]) rfl ⟨rfl, by go_grown⟩
set_option maxRecDepth 100000 in
set_option maxHeartbeats 1000000 in
theorem of_lit7 (w : World) :
    Calls Tryd.prog 22 #[.int .i64 7] w fun e w' => e = .returned (.tuple #[.agg (kcells (kindOf 7)), .bool true]) ∧ Below w.heap.size w w' := by
  go_enter Tryd.func22, Tryd.ntmps22
  go_wp2_with go_in
  exact bodyPost_ret (v := .tuple #[.agg #[.int .i64 4, .int .u32 99, .int .u32 4, .int .u32 0], .bool true]) (by simp [results, Tryd.results22, go_sem]) rfl ⟨rfl, by go_grown⟩
set_option maxRecDepth 100000 in
set_option maxHeartbeats 1000000 in
theorem of_lit8 (w : World) :
    Calls Tryd.prog 22 #[.int .i64 8] w fun e w' => e = .returned (.tuple #[.agg (kcells (kindOf 8)), .bool true]) ∧ Below w.heap.size w w' := by
  go_enter Tryd.func22, Tryd.ntmps22
  go_wp2_with go_in
  exact bodyPost_ret (v := .tuple #[.agg #[.int .i64 4, .int .u32 99, .int .u32 5, .int .u32 0], .bool true]) (by simp [results, Tryd.results22, go_sem]) rfl ⟨rfl, by go_grown⟩
set_option maxRecDepth 100000 in
set_option maxHeartbeats 1000000 in
theorem of_lit9 (w : World) :
    Calls Tryd.prog 22 #[.int .i64 9] w fun e w' => e = .returned (.tuple #[.agg (kcells (kindOf 9)), .bool true]) ∧ Below w.heap.size w w' := by
  go_enter Tryd.func22, Tryd.ntmps22
  go_wp2_with go_in
  exact bodyPost_ret (v := .tuple #[.agg #[.int .i64 4, .int .u32 99, .int .u32 6, .int .u32 0], .bool true]) (by simp [results, Tryd.results22, go_sem]) rfl ⟨rfl, by go_grown⟩
set_option maxRecDepth 100000 in
set_option maxHeartbeats 1000000 in
theorem of_lit10 (w : World) :
    Calls Tryd.prog 22 #[.int .i64 10] w fun e w' => e = .returned (.tuple #[.agg (kcells (kindOf 10)), .bool true]) ∧ Below w.heap.size w w' := by
  go_enter Tryd.func22, Tryd.ntmps22
  go_wp2_with go_in
  exact bodyPost_ret (v := .tuple #[.agg #[.int .i64 4, .int .u32 99, .int .u32 7, .int .u32 0], .bool true]) (by simp [results, Tryd.results22, go_sem]) rfl ⟨rfl, by go_grown⟩
set_option maxRecDepth 100000 in
set_option maxHeartbeats 1000000 in
theorem of_lit11 (w : World) :
    Calls Tryd.prog 22 #[.int .i64 11] w fun e w' => e = .returned (.tuple #[.agg (kcells (kindOf 11)), .bool true]) ∧ Below w.heap.size w w' := by
  go_enter Tryd.func22, Tryd.ntmps22
  go_wp2_with go_in
  exact bodyPost_ret (v := .tuple #[.agg #[.int .i64 2, .int .u32 3, .int .u32 0, .int .u32 0], .bool true]) (by simp [results, Tryd.results22, go_sem]) rfl ⟨rfl, by go_grown⟩
set_option maxRecDepth 100000 in
set_option maxHeartbeats 1000000 in
theorem of_lit12 (w : World) :
    Calls Tryd.prog 22 #[.int .i64 12] w fun e w' => e = .returned (.tuple #[.agg (kcells (kindOf 12)), .bool true]) ∧ Below w.heap.size w w' := by
  go_enter Tryd.func22, Tryd.ntmps22
  go_wp2_with go_in
  exact bodyPost_ret (v := .tuple #[.agg #[.int .i64 2, .int .u32 3, .int .u32 1, .int .u32 0], .bool true]) (by simp [results, Tryd.results22, go_sem]) rfl ⟨rfl, by go_grown⟩
set_option maxRecDepth 100000 in
set_option maxHeartbeats 1000000 in
theorem of_lit13 (w : World) :
    Calls Tryd.prog 22 #[.int .i64 13] w fun e w' => e = .returned (.tuple #[.agg (kcells (kindOf 13)), .bool true]) ∧ Below w.heap.size w w' := by
  go_enter Tryd.func22, Tryd.ntmps22
  go_wp2_with go_in
  exact bodyPost_ret (v := .tuple #[.agg #[.int .i64 2, .int .u32 3, .int .u32 2, .int .u32 0], .bool true]) (by simp [results, Tryd.results22, go_sem]) rfl ⟨rfl, by go_grown⟩
set_option maxRecDepth 100000 in
set_option maxHeartbeats 1000000 in
theorem of_lit14 (w : World) :
    Calls Tryd.prog 22 #[.int .i64 14] w fun e w' => e = .returned (.tuple #[.agg (kcells (kindOf 14)), .bool true]) ∧ Below w.heap.size w w' := by
  go_enter Tryd.func22, Tryd.ntmps22
  go_wp2_with go_in
  exact bodyPost_ret (v := .tuple #[.agg #[.int .i64 2, .int .u32 3, .int .u32 4, .int .u32 0], .bool true]) (by simp [results, Tryd.results22, go_sem]) rfl ⟨rfl, by go_grown⟩
set_option maxRecDepth 100000 in
set_option maxHeartbeats 1000000 in
theorem of_lit15 (w : World) :
    Calls Tryd.prog 22 #[.int .i64 15] w fun e w' => e = .returned (.tuple #[.agg (kcells (kindOf 15)), .bool true]) ∧ Below w.heap.size w w' := by
  go_enter Tryd.func22, Tryd.ntmps22
  go_wp2_with go_in
  exact bodyPost_ret (v := .tuple #[.agg #[.int .i64 2, .int .u32 3, .int .u32 5, .int .u32 0], .bool true]) (by simp [results, Tryd.results22, go_sem]) rfl ⟨rfl, by go_grown⟩
set_option maxRecDepth 100000 in
set_option maxHeartbeats 1000000 in
theorem of_lit16 (w : World) :
    Calls Tryd.prog 22 #[.int .i64 16] w fun e w' => e = .returned (.tuple #[.agg (kcells (kindOf 16)), .bool true]) ∧ Below w.heap.size w w' := by
  go_enter Tryd.func22, Tryd.ntmps22
  go_wp2_with go_in
  exact bodyPost_ret (v := .tuple #[.agg #[.int .i64 5, .int .u32 35, .int .u32 0, .int .u32 0], .bool true]) (by simp [results, Tryd.results22, go_sem]) rfl ⟨rfl, by go_grown⟩
set_option maxRecDepth 100000 in
set_option maxHeartbeats 1000000 in
theorem of_lit17 (w : World) :
    Calls Tryd.prog 22 #[.int .i64 17] w fun e w' => e = .returned (.tuple #[.agg (kcells (kindOf 17)), .bool true]) ∧ Below w.heap.size w w' := by
  go_enter Tryd.func22, Tryd.ntmps22
  go_wp2_with go_in
  exact bodyPost_ret (v := .tuple #[.agg #[.int .i64 5, .int .u32 35, .int .u32 1, .int .u32 0], .bool true]) (by simp [results, Tryd.results22, go_sem]) rfl ⟨rfl, by go_grown⟩
set_option maxRecDepth 100000 in
set_option maxHeartbeats 1000000 in
theorem of_lit18 (w : World) :
    Calls Tryd.prog 22 #[.int .i64 18] w fun e w' => e = .returned (.tuple #[.agg (kcells (kindOf 18)), .bool true]) ∧ Below w.heap.size w w' := by
  go_enter Tryd.func22, Tryd.ntmps22
  go_wp2_with go_in
  exact bodyPost_ret (v := .tuple #[.agg #[.int .i64 5, .int .u32 35, .int .u32 2, .int .u32 0], .bool true]) (by simp [results, Tryd.results22, go_sem]) rfl ⟨rfl, by go_grown⟩
set_option maxRecDepth 100000 in
set_option maxHeartbeats 1000000 in
theorem of_lit19 (w : World) :
    Calls Tryd.prog 22 #[.int .i64 19] w fun e w' => e = .returned (.tuple #[.agg (kcells (kindOf 19)), .bool true]) ∧ Below w.heap.size w w' := by
  go_enter Tryd.func22, Tryd.ntmps22
  go_wp2_with go_in
  exact bodyPost_ret (v := .tuple #[.agg #[.int .i64 2, .int .u32 19, .int .u32 0, .int .u32 0], .bool true]) (by simp [results, Tryd.results22, go_sem]) rfl ⟨rfl, by go_grown⟩
set_option maxRecDepth 100000 in
set_option maxHeartbeats 1000000 in
theorem of_lit20 (w : World) :
    Calls Tryd.prog 22 #[.int .i64 20] w fun e w' => e = .returned (.tuple #[.agg (kcells (kindOf 20)), .bool true]) ∧ Below w.heap.size w w' := by
  go_enter Tryd.func22, Tryd.ntmps22
  go_wp2_with go_in
  exact bodyPost_ret (v := .tuple #[.agg #[.int .i64 2, .int .u32 19, .int .u32 2, .int .u32 0], .bool true]) (by simp [results, Tryd.results22, go_sem]) rfl ⟨rfl, by go_grown⟩
set_option maxRecDepth 100000 in
set_option maxHeartbeats 1000000 in
theorem of_lit21 (w : World) :
    Calls Tryd.prog 22 #[.int .i64 21] w fun e w' => e = .returned (.tuple #[.agg (kcells (kindOf 21)), .bool true]) ∧ Below w.heap.size w w' := by
  go_enter Tryd.func22, Tryd.ntmps22
  go_wp2_with go_in
  exact bodyPost_ret (v := .tuple #[.agg #[.int .i64 2, .int .u32 19, .int .u32 3, .int .u32 0], .bool true]) (by simp [results, Tryd.results22, go_sem]) rfl ⟨rfl, by go_grown⟩
set_option maxRecDepth 100000 in
set_option maxHeartbeats 1000000 in
theorem of_lit22 (w : World) :
    Calls Tryd.prog 22 #[.int .i64 22] w fun e w' => e = .returned (.tuple #[.agg (kcells (kindOf 22)), .bool true]) ∧ Below w.heap.size w w' := by
  go_enter Tryd.func22, Tryd.ntmps22
  go_wp2_with go_in
  exact bodyPost_ret (v := .tuple #[.agg #[.int .i64 2, .int .u32 19, .int .u32 4, .int .u32 0], .bool true]) (by simp [results, Tryd.results22, go_sem]) rfl ⟨rfl, by go_grown⟩
end Go.Proofs.YtlfnddmncbkjaacDoor.W
