/- decode.of, instruction by instruction (1 to 22). -/
import Derived.Test.YtlfnddmncbkjaacDoorZMA
namespace Go.Proofs.YtlfnddmncbkjaacDoor.W
set_option linter.unusedVariables false
set_option linter.unusedSimpArgs false
open Go.RowKit Fb
set_option maxRecDepth 100000 in
set_option maxHeartbeats 1000000 in
theorem of_lit1 (w : World) :
    Calls Tryd.prog 22 #[.int .i64 1] w fun e w' => e = .returned (.tuple #[.agg (kcells (kindOf 1)), .bool true]) ∧ Below w.heap.size w w' := by
  go_enter Tryd.func22, Tryd.ntmps22
  go_wp2_with go_in
  exact bodyPost_ret (v := .tuple #[.agg #[.int .i64 0, .int .u32 55, .int .u32 0, .int .u32 0], .bool true]) (by simp [results, Tryd.results22, go_sem]) rfl ⟨rfl, by go_grown⟩
set_option maxRecDepth 100000 in
set_option maxHeartbeats 1000000 in
theorem of_lit2 (w : World) :
    Calls Tryd.prog 22 #[.int .i64 2] w fun e w' => e = .returned (.tuple #[.agg (kcells (kindOf 2)), .bool true]) ∧ Below w.heap.size w w' := by
  go_enter Tryd.func22, Tryd.ntmps22
  go_wp2_with go_in
  exact bodyPost_ret (v := .tuple #[.agg #[.int .i64 0, .int .u32 23, .int .u32 0, .int .u32 0], .bool true]) (by simp [results, Tryd.results22, go_sem]) rfl ⟨rfl, by go_grown⟩
set_option maxRecDepth 100000 in
set_option maxHeartbeats 1000000 in
theorem of_lit3 (w : World) :
    Calls Tryd.prog 22 #[.int .i64 3] w fun e w' => e = .returned (.tuple #[.agg (kcells (kindOf 3)), .bool true]) ∧ Below w.heap.size w w' := by
  go_enter Tryd.func22, Tryd.ntmps22
  go_wp2_with go_in
  exact bodyPost_ret (v := .tuple #[.agg #[.int .i64 1, .int .u32 111, .int .u32 0, .int .u32 0], .bool true]) (by simp [results, Tryd.results22, go_sem]) rfl ⟨rfl, by go_grown⟩
set_option maxRecDepth 100000 in
set_option maxHeartbeats 1000000 in
theorem of_lit4 (w : World) :
    Calls Tryd.prog 22 #[.int .i64 4] w fun e w' => e = .returned (.tuple #[.agg (kcells (kindOf 4)), .bool true]) ∧ Below w.heap.size w w' := by
  go_enter Tryd.func22, Tryd.ntmps22
  go_wp2_with go_in
  exact bodyPost_ret (v := .tuple #[.agg #[.int .i64 2, .int .u32 103, .int .u32 0, .int .u32 0], .bool true]) (by simp [results, Tryd.results22, go_sem]) rfl ⟨rfl, by go_grown⟩
set_option maxRecDepth 100000 in
set_option maxHeartbeats 1000000 in
theorem of_lit5 (w : World) :
    Calls Tryd.prog 22 #[.int .i64 5] w fun e w' => e = .returned (.tuple #[.agg (kcells (kindOf 5)), .bool true]) ∧ Below w.heap.size w w' := by
  go_enter Tryd.func22, Tryd.ntmps22
  go_wp2_with go_in
  exact bodyPost_ret (v := .tuple #[.agg #[.int .i64 4, .int .u32 99, .int .u32 0, .int .u32 0], .bool true]) (by simp [results, Tryd.results22, go_sem]) rfl ⟨rfl, by go_grown⟩
set_option maxRecDepth 100000 in
set_option maxHeartbeats 1000000 in
theorem of_lit6 (w : World) :
    Calls Tryd.prog 22 #[.int .i64 6] w fun e w' => e = .returned (.tuple #[.agg (kcells (kindOf 6)), .bool true]) ∧ Below w.heap.size w w' := by
  go_enter Tryd.func22, Tryd.ntmps22
  go_wp2_with go_in
  exact bodyPost_ret (v := .tuple #[.agg #[.int .i64 4, .int .u32 99, .int .u32 1, .int .u32 0], .bool true]) (by simp [results, Tryd.results22, go_sem]) rfl ⟨rfl, by go_grown⟩
set_option maxRecDepth 100000 in
set_option maxHeartbeats 1000000 in
theorem of_lit7 (w : World) :
    Calls Tryd.prog 22 #[.int .i64 7] w fun e w' => e = .returned (.tuple #[.agg (kcells (kindOf 7)), .bool true]) ∧ Below w.heap.size w w' := by
  go_enter Tryd.func22, Tryd.ntmps22
  go_wp2_with go_in
  exact bodyPost_ret (v := .tuple #[.agg #[.int .i64 4, .int .u32 99, .int .u32 4, .int .u32 0], .bool true]) (by simp [results, Tryd.results22, go_sem]) rfl ⟨rfl, by go_grown⟩
set_option maxRecDepth 100000 in
set_option maxHeartbeats 1000000 in
theorem of_lit8 (w : World) :
    Calls Tryd.prog 22 #[.int .i64 8] w fun e w' => e = .returned (.tuple #[.agg (kcells (kindOf 8)), .bool true]) ∧ Below w.heap.size w w' := by
  go_enter Tryd.func22, Tryd.ntmps22
  go_wp2_with go_in
  exact bodyPost_ret (v := .tuple #[.agg #[.int .i64 4, .int .u32 99, .int .u32 5, .int .u32 0], .bool true]) (by simp [results, Tryd.results22, go_sem]) rfl ⟨rfl, by go_grown⟩
set_option maxRecDepth 100000 in
set_option maxHeartbeats 1000000 in
theorem of_lit9 (w : World) :
    Calls Tryd.prog 22 #[.int .i64 9] w fun e w' => e = .returned (.tuple #[.agg (kcells (kindOf 9)), .bool true]) ∧ Below w.heap.size w w' := by
  go_enter Tryd.func22, Tryd.ntmps22
  go_wp2_with go_in
  exact bodyPost_ret (v := .tuple #[.agg #[.int .i64 4, .int .u32 99, .int .u32 6, .int .u32 0], .bool true]) (by simp [results, Tryd.results22, go_sem]) rfl ⟨rfl, by go_grown⟩
set_option maxRecDepth 100000 in
set_option maxHeartbeats 1000000 in
theorem of_lit10 (w : World) :
    Calls Tryd.prog 22 #[.int .i64 10] w fun e w' => e = .returned (.tuple #[.agg (kcells (kindOf 10)), .bool true]) ∧ Below w.heap.size w w' := by
  go_enter Tryd.func22, Tryd.ntmps22
  go_wp2_with go_in
  exact bodyPost_ret (v := .tuple #[.agg #[.int .i64 4, .int .u32 99, .int .u32 7, .int .u32 0], .bool true]) (by simp [results, Tryd.results22, go_sem]) rfl ⟨rfl, by go_grown⟩
set_option maxRecDepth 100000 in
set_option maxHeartbeats 1000000 in
theorem of_lit11 (w : World) :
    Calls Tryd.prog 22 #[.int .i64 11] w fun e w' => e = .returned (.tuple #[.agg (kcells (kindOf 11)), .bool true]) ∧ Below w.heap.size w w' := by
  go_enter Tryd.func22, Tryd.ntmps22
  go_wp2_with go_in
  exact bodyPost_ret (v := .tuple #[.agg #[.int .i64 2, .int .u32 3, .int .u32 0, .int .u32 0], .bool true]) (by simp [results, Tryd.results22, go_sem]) rfl ⟨rfl, by go_grown⟩
set_option maxRecDepth 100000 in
set_option maxHeartbeats 1000000 in
theorem of_lit12 (w : World) :
    Calls Tryd.prog 22 #[.int .i64 12] w fun e w' => e = .returned (.tuple #[.agg (kcells (kindOf 12)), .bool true]) ∧ Below w.heap.size w w' := by
  go_enter Tryd.func22, Tryd.ntmps22
  go_wp2_with go_in
  exact bodyPost_ret (v := .tuple #[.agg #[.int .i64 2, .int .u32 3, .int .u32 1, .int .u32 0], .bool true]) (by simp [results, Tryd.results22, go_sem]) rfl ⟨rfl, by go_grown⟩
set_option maxRecDepth 100000 in
set_option maxHeartbeats 1000000 in
theorem of_lit13 (w : World) :
    Calls Tryd.prog 22 #[.int .i64 13] w fun e w' => e = .returned (.tuple #[.agg (kcells (kindOf 13)), .bool true]) ∧ Below w.heap.size w w' := by
  go_enter Tryd.func22, Tryd.ntmps22
  go_wp2_with go_in
  exact bodyPost_ret (v := .tuple #[.agg #[.int .i64 2, .int .u32 3, .int .u32 2, .int .u32 0], .bool true]) (by simp [results, Tryd.results22, go_sem]) rfl ⟨rfl, by go_grown⟩
set_option maxRecDepth 100000 in
set_option maxHeartbeats 1000000 in
theorem of_lit14 (w : World) :
    Calls Tryd.prog 22 #[.int .i64 14] w fun e w' => e = .returned (.tuple #[.agg (kcells (kindOf 14)), .bool true]) ∧ Below w.heap.size w w' := by
  go_enter Tryd.func22, Tryd.ntmps22
  go_wp2_with go_in
  exact bodyPost_ret (v := .tuple #[.agg #[.int .i64 2, .int .u32 3, .int .u32 4, .int .u32 0], .bool true]) (by simp [results, Tryd.results22, go_sem]) rfl ⟨rfl, by go_grown⟩
set_option maxRecDepth 100000 in
set_option maxHeartbeats 1000000 in
theorem of_lit15 (w : World) :
    Calls Tryd.prog 22 #[.int .i64 15] w fun e w' => e = .returned (.tuple #[.agg (kcells (kindOf 15)), .bool true]) ∧ Below w.heap.size w w' := by
  go_enter Tryd.func22, Tryd.ntmps22
  go_wp2_with go_in
  exact bodyPost_ret (v := .tuple #[.agg #[.int .i64 2, .int .u32 3, .int .u32 5, .int .u32 0], .bool true]) (by simp [results, Tryd.results22, go_sem]) rfl ⟨rfl, by go_grown⟩
set_option maxRecDepth 100000 in
set_option maxHeartbeats 1000000 in
theorem of_lit16 (w : World) :
    Calls Tryd.prog 22 #[.int .i64 16] w fun e w' => e = .returned (.tuple #[.agg (kcells (kindOf 16)), .bool true]) ∧ Below w.heap.size w w' := by
  go_enter Tryd.func22, Tryd.ntmps22
  go_wp2_with go_in
  exact bodyPost_ret (v := .tuple #[.agg #[.int .i64 5, .int .u32 35, .int .u32 0, .int .u32 0], .bool true]) (by simp [results, Tryd.results22, go_sem]) rfl ⟨rfl, by go_grown⟩
set_option maxRecDepth 100000 in
set_option maxHeartbeats 1000000 in
theorem of_lit17 (w : World) :
    Calls Tryd.prog 22 #[.int .i64 17] w fun e w' => e = .returned (.tuple #[.agg (kcells (kindOf 17)), .bool true]) ∧ Below w.heap.size w w' := by
  go_enter Tryd.func22, Tryd.ntmps22
  go_wp2_with go_in
  exact bodyPost_ret (v := .tuple #[.agg #[.int .i64 5, .int .u32 35, .int .u32 1, .int .u32 0], .bool true]) (by simp [results, Tryd.results22, go_sem]) rfl ⟨rfl, by go_grown⟩
set_option maxRecDepth 100000 in
set_option maxHeartbeats 1000000 in
theorem of_lit18 (w : World) :
    Calls Tryd.prog 22 #[.int .i64 18] w fun e w' => e = .returned (.tuple #[.agg (kcells (kindOf 18)), .bool true]) ∧ Below w.heap.size w w' := by
  go_enter Tryd.func22, Tryd.ntmps22
  go_wp2_with go_in
  exact bodyPost_ret (v := .tuple #[.agg #[.int .i64 5, .int .u32 35, .int .u32 2, .int .u32 0], .bool true]) (by simp [results, Tryd.results22, go_sem]) rfl ⟨rfl, by go_grown⟩
set_option maxRecDepth 100000 in
set_option maxHeartbeats 1000000 in
theorem of_lit19 (w : World) :
    Calls Tryd.prog 22 #[.int .i64 19] w fun e w' => e = .returned (.tuple #[.agg (kcells (kindOf 19)), .bool true]) ∧ Below w.heap.size w w' := by
  go_enter Tryd.func22, Tryd.ntmps22
  go_wp2_with go_in
  exact bodyPost_ret (v := .tuple #[.agg #[.int .i64 2, .int .u32 19, .int .u32 0, .int .u32 0], .bool true]) (by simp [results, Tryd.results22, go_sem]) rfl ⟨rfl, by go_grown⟩
set_option maxRecDepth 100000 in
set_option maxHeartbeats 1000000 in
theorem of_lit20 (w : World) :
    Calls Tryd.prog 22 #[.int .i64 20] w fun e w' => e = .returned (.tuple #[.agg (kcells (kindOf 20)), .bool true]) ∧ Below w.heap.size w w' := by
  go_enter Tryd.func22, Tryd.ntmps22
  go_wp2_with go_in
  exact bodyPost_ret (v := .tuple #[.agg #[.int .i64 2, .int .u32 19, .int .u32 2, .int .u32 0], .bool true]) (by simp [results, Tryd.results22, go_sem]) rfl ⟨rfl, by go_grown⟩
set_option maxRecDepth 100000 in
set_option maxHeartbeats 1000000 in
theorem of_lit21 (w : World) :
    Calls Tryd.prog 22 #[.int .i64 21] w fun e w' => e = .returned (.tuple #[.agg (kcells (kindOf 21)), .bool true]) ∧ Below w.heap.size w w' := by
  go_enter Tryd.func22, Tryd.ntmps22
  go_wp2_with go_in
  exact bodyPost_ret (v := .tuple #[.agg #[.int .i64 2, .int .u32 19, .int .u32 3, .int .u32 0], .bool true]) (by simp [results, Tryd.results22, go_sem]) rfl ⟨rfl, by go_grown⟩
set_option maxRecDepth 100000 in
set_option maxHeartbeats 1000000 in
theorem of_lit22 (w : World) :
    Calls Tryd.prog 22 #[.int .i64 22] w fun e w' => e = .returned (.tuple #[.agg (kcells (kindOf 22)), .bool true]) ∧ Below w.heap.size w w' := by
  go_enter Tryd.func22, Tryd.ntmps22
  go_wp2_with go_in
  exact bodyPost_ret (v := .tuple #[.agg #[.int .i64 2, .int .u32 19, .int .u32 4, .int .u32 0], .bool true]) (by simp [results, Tryd.results22, go_sem]) rfl ⟨rfl, by go_grown⟩
end Go.Proofs.YtlfnddmncbkjaacDoor.W

/- decode.of, instruction by instruction (23 to 40). -/
namespace Go.Proofs.YtlfnddmncbkjaacDoor.W
set_option linter.unusedVariables false
set_option linter.unusedSimpArgs false
open Go.RowKit Fb
set_option maxRecDepth 100000 in
set_option maxHeartbeats 1000000 in
theorem of_lit23 (w : World) :
    Calls Tryd.prog 22 #[.int .i64 23] w fun e w' => e = .returned (.tuple #[.agg (kcells (kindOf 23)), .bool true]) ∧ Below w.heap.size w w' := by
  go_enter Tryd.func22, Tryd.ntmps22
  go_wp2_with go_in
  exact bodyPost_ret (v := .tuple #[.agg #[.int .i64 2, .int .u32 19, .int .u32 6, .int .u32 0], .bool true]) (by simp [results, Tryd.results22, go_sem]) rfl ⟨rfl, by go_grown⟩
set_option maxRecDepth 100000 in
set_option maxHeartbeats 1000000 in
theorem of_lit24 (w : World) :
    Calls Tryd.prog 22 #[.int .i64 24] w fun e w' => e = .returned (.tuple #[.agg (kcells (kindOf 24)), .bool true]) ∧ Below w.heap.size w w' := by
  go_enter Tryd.func22, Tryd.ntmps22
  go_wp2_with go_in
  exact bodyPost_ret (v := .tuple #[.agg #[.int .i64 2, .int .u32 19, .int .u32 7, .int .u32 0], .bool true]) (by simp [results, Tryd.results22, go_sem]) rfl ⟨rfl, by go_grown⟩
set_option maxRecDepth 100000 in
set_option maxHeartbeats 1000000 in
theorem of_lit25 (w : World) :
    Calls Tryd.prog 22 #[.int .i64 25] w fun e w' => e = .returned (.tuple #[.agg (kcells (kindOf 25)), .bool true]) ∧ Below w.heap.size w w' := by
  go_enter Tryd.func22, Tryd.ntmps22
  go_wp2_with go_in
  exact bodyPost_ret (v := .tuple #[.agg #[.int .i64 3, .int .u32 19, .int .u32 1, .int .u32 0], .bool true]) (by simp [results, Tryd.results22, go_sem]) rfl ⟨rfl, by go_grown⟩
set_option maxRecDepth 100000 in
set_option maxHeartbeats 1000000 in
theorem of_lit26 (w : World) :
    Calls Tryd.prog 22 #[.int .i64 26] w fun e w' => e = .returned (.tuple #[.agg (kcells (kindOf 26)), .bool true]) ∧ Below w.heap.size w w' := by
  go_enter Tryd.func22, Tryd.ntmps22
  go_wp2_with go_in
  exact bodyPost_ret (v := .tuple #[.agg #[.int .i64 3, .int .u32 19, .int .u32 5, .int .u32 0], .bool true]) (by simp [results, Tryd.results22, go_sem]) rfl ⟨rfl, by go_grown⟩
set_option maxRecDepth 100000 in
set_option maxHeartbeats 1000000 in
theorem of_lit27 (w : World) :
    Calls Tryd.prog 22 #[.int .i64 27] w fun e w' => e = .returned (.tuple #[.agg (kcells (kindOf 27)), .bool true]) ∧ Below w.heap.size w w' := by
  go_enter Tryd.func22, Tryd.ntmps22
  go_wp2_with go_in
  exact bodyPost_ret (v := .tuple #[.agg #[.int .i64 3, .int .u32 19, .int .u32 5, .int .u32 32], .bool true]) (by simp [results, Tryd.results22, go_sem]) rfl ⟨rfl, by go_grown⟩
set_option maxRecDepth 100000 in
set_option maxHeartbeats 1000000 in
theorem of_lit28 (w : World) :
    Calls Tryd.prog 22 #[.int .i64 28] w fun e w' => e = .returned (.tuple #[.agg (kcells (kindOf 28)), .bool true]) ∧ Below w.heap.size w w' := by
  go_enter Tryd.func22, Tryd.ntmps22
  go_wp2_with go_in
  exact bodyPost_ret (v := .tuple #[.agg #[.int .i64 6, .int .u32 51, .int .u32 0, .int .u32 0], .bool true]) (by simp [results, Tryd.results22, go_sem]) rfl ⟨rfl, by go_grown⟩
set_option maxRecDepth 100000 in
set_option maxHeartbeats 1000000 in
theorem of_lit29 (w : World) :
    Calls Tryd.prog 22 #[.int .i64 29] w fun e w' => e = .returned (.tuple #[.agg (kcells (kindOf 29)), .bool true]) ∧ Below w.heap.size w w' := by
  go_enter Tryd.func22, Tryd.ntmps22
  go_wp2_with go_in
  exact bodyPost_ret (v := .tuple #[.agg #[.int .i64 6, .int .u32 51, .int .u32 0, .int .u32 32], .bool true]) (by simp [results, Tryd.results22, go_sem]) rfl ⟨rfl, by go_grown⟩
set_option maxRecDepth 100000 in
set_option maxHeartbeats 1000000 in
theorem of_lit30 (w : World) :
    Calls Tryd.prog 22 #[.int .i64 30] w fun e w' => e = .returned (.tuple #[.agg (kcells (kindOf 30)), .bool true]) ∧ Below w.heap.size w w' := by
  go_enter Tryd.func22, Tryd.ntmps22
  go_wp2_with go_in
  exact bodyPost_ret (v := .tuple #[.agg #[.int .i64 6, .int .u32 51, .int .u32 1, .int .u32 0], .bool true]) (by simp [results, Tryd.results22, go_sem]) rfl ⟨rfl, by go_grown⟩
set_option maxRecDepth 100000 in
set_option maxHeartbeats 1000000 in
theorem of_lit31 (w : World) :
    Calls Tryd.prog 22 #[.int .i64 31] w fun e w' => e = .returned (.tuple #[.agg (kcells (kindOf 31)), .bool true]) ∧ Below w.heap.size w w' := by
  go_enter Tryd.func22, Tryd.ntmps22
  go_wp2_with go_in
  exact bodyPost_ret (v := .tuple #[.agg #[.int .i64 6, .int .u32 51, .int .u32 2, .int .u32 0], .bool true]) (by simp [results, Tryd.results22, go_sem]) rfl ⟨rfl, by go_grown⟩
set_option maxRecDepth 100000 in
set_option maxHeartbeats 1000000 in
theorem of_lit32 (w : World) :
    Calls Tryd.prog 22 #[.int .i64 32] w fun e w' => e = .returned (.tuple #[.agg (kcells (kindOf 32)), .bool true]) ∧ Below w.heap.size w w' := by
  go_enter Tryd.func22, Tryd.ntmps22
  go_wp2_with go_in
  exact bodyPost_ret (v := .tuple #[.agg #[.int .i64 6, .int .u32 51, .int .u32 3, .int .u32 0], .bool true]) (by simp [results, Tryd.results22, go_sem]) rfl ⟨rfl, by go_grown⟩
set_option maxRecDepth 100000 in
set_option maxHeartbeats 1000000 in
theorem of_lit33 (w : World) :
    Calls Tryd.prog 22 #[.int .i64 33] w fun e w' => e = .returned (.tuple #[.agg (kcells (kindOf 33)), .bool true]) ∧ Below w.heap.size w w' := by
  go_enter Tryd.func22, Tryd.ntmps22
  go_wp2_with go_in
  exact bodyPost_ret (v := .tuple #[.agg #[.int .i64 6, .int .u32 51, .int .u32 4, .int .u32 0], .bool true]) (by simp [results, Tryd.results22, go_sem]) rfl ⟨rfl, by go_grown⟩
set_option maxRecDepth 100000 in
set_option maxHeartbeats 1000000 in
theorem of_lit34 (w : World) :
    Calls Tryd.prog 22 #[.int .i64 34] w fun e w' => e = .returned (.tuple #[.agg (kcells (kindOf 34)), .bool true]) ∧ Below w.heap.size w w' := by
  go_enter Tryd.func22, Tryd.ntmps22
  go_wp2_with go_in
  exact bodyPost_ret (v := .tuple #[.agg #[.int .i64 6, .int .u32 51, .int .u32 5, .int .u32 0], .bool true]) (by simp [results, Tryd.results22, go_sem]) rfl ⟨rfl, by go_grown⟩
set_option maxRecDepth 100000 in
set_option maxHeartbeats 1000000 in
theorem of_lit35 (w : World) :
    Calls Tryd.prog 22 #[.int .i64 35] w fun e w' => e = .returned (.tuple #[.agg (kcells (kindOf 35)), .bool true]) ∧ Below w.heap.size w w' := by
  go_enter Tryd.func22, Tryd.ntmps22
  go_wp2_with go_in
  exact bodyPost_ret (v := .tuple #[.agg #[.int .i64 6, .int .u32 51, .int .u32 5, .int .u32 32], .bool true]) (by simp [results, Tryd.results22, go_sem]) rfl ⟨rfl, by go_grown⟩
set_option maxRecDepth 100000 in
set_option maxHeartbeats 1000000 in
theorem of_lit36 (w : World) :
    Calls Tryd.prog 22 #[.int .i64 36] w fun e w' => e = .returned (.tuple #[.agg (kcells (kindOf 36)), .bool true]) ∧ Below w.heap.size w w' := by
  go_enter Tryd.func22, Tryd.ntmps22
  go_wp2_with go_in
  exact bodyPost_ret (v := .tuple #[.agg #[.int .i64 6, .int .u32 51, .int .u32 6, .int .u32 0], .bool true]) (by simp [results, Tryd.results22, go_sem]) rfl ⟨rfl, by go_grown⟩
set_option maxRecDepth 100000 in
set_option maxHeartbeats 1000000 in
theorem of_lit37 (w : World) :
    Calls Tryd.prog 22 #[.int .i64 37] w fun e w' => e = .returned (.tuple #[.agg (kcells (kindOf 37)), .bool true]) ∧ Below w.heap.size w w' := by
  go_enter Tryd.func22, Tryd.ntmps22
  go_wp2_with go_in
  exact bodyPost_ret (v := .tuple #[.agg #[.int .i64 6, .int .u32 51, .int .u32 7, .int .u32 0], .bool true]) (by simp [results, Tryd.results22, go_sem]) rfl ⟨rfl, by go_grown⟩
set_option maxRecDepth 100000 in
set_option maxHeartbeats 1000000 in
theorem of_lit38 (w : World) :
    Calls Tryd.prog 22 #[.int .i64 38] w fun e w' => e = .returned (.tuple #[.agg (kcells (kindOf 38)), .bool true]) ∧ Below w.heap.size w w' := by
  go_enter Tryd.func22, Tryd.ntmps22
  go_wp2_with go_in
  exact bodyPost_ret (v := .tuple #[.agg #[.int .i64 6, .int .u32 51, .int .u32 0, .int .u32 1], .bool true]) (by simp [results, Tryd.results22, go_sem]) rfl ⟨rfl, by go_grown⟩
set_option maxRecDepth 100000 in
set_option maxHeartbeats 1000000 in
theorem of_lit39 (w : World) :
    Calls Tryd.prog 22 #[.int .i64 39] w fun e w' => e = .returned (.tuple #[.agg (kcells (kindOf 39)), .bool true]) ∧ Below w.heap.size w w' := by
  go_enter Tryd.func22, Tryd.ntmps22
  go_wp2_with go_in
  exact bodyPost_ret (v := .tuple #[.agg #[.int .i64 6, .int .u32 51, .int .u32 1, .int .u32 1], .bool true]) (by simp [results, Tryd.results22, go_sem]) rfl ⟨rfl, by go_grown⟩
set_option maxRecDepth 100000 in
set_option maxHeartbeats 1000000 in
theorem of_lit40 (w : World) :
    Calls Tryd.prog 22 #[.int .i64 40] w fun e w' => e = .returned (.tuple #[.agg (kcells (kindOf 40)), .bool true]) ∧ Below w.heap.size w w' := by
  go_enter Tryd.func22, Tryd.ntmps22
  go_wp2_with go_in
  exact bodyPost_ret (v := .tuple #[.agg #[.int .i64 6, .int .u32 51, .int .u32 2, .int .u32 1], .bool true]) (by simp [results, Tryd.results22, go_sem]) rfl ⟨rfl, by go_grown⟩
end Go.Proofs.YtlfnddmncbkjaacDoor.W

/- decode.of, instruction by instruction (41 to 59). -/
namespace Go.Proofs.YtlfnddmncbkjaacDoor.W
set_option linter.unusedVariables false
set_option linter.unusedSimpArgs false
open Go.RowKit Fb
set_option maxRecDepth 100000 in
set_option maxHeartbeats 1000000 in
theorem of_lit41 (w : World) :
    Calls Tryd.prog 22 #[.int .i64 41] w fun e w' => e = .returned (.tuple #[.agg (kcells (kindOf 41)), .bool true]) ∧ Below w.heap.size w w' := by
  go_enter Tryd.func22, Tryd.ntmps22
  go_wp2_with go_in
  exact bodyPost_ret (v := .tuple #[.agg #[.int .i64 6, .int .u32 51, .int .u32 3, .int .u32 1], .bool true]) (by simp [results, Tryd.results22, go_sem]) rfl ⟨rfl, by go_grown⟩
set_option maxRecDepth 100000 in
set_option maxHeartbeats 1000000 in
theorem of_lit42 (w : World) :
    Calls Tryd.prog 22 #[.int .i64 42] w fun e w' => e = .returned (.tuple #[.agg (kcells (kindOf 42)), .bool true]) ∧ Below w.heap.size w w' := by
  go_enter Tryd.func22, Tryd.ntmps22
  go_wp2_with go_in
  exact bodyPost_ret (v := .tuple #[.agg #[.int .i64 6, .int .u32 51, .int .u32 4, .int .u32 1], .bool true]) (by simp [results, Tryd.results22, go_sem]) rfl ⟨rfl, by go_grown⟩
set_option maxRecDepth 100000 in
set_option maxHeartbeats 1000000 in
theorem of_lit43 (w : World) :
    Calls Tryd.prog 22 #[.int .i64 43] w fun e w' => e = .returned (.tuple #[.agg (kcells (kindOf 43)), .bool true]) ∧ Below w.heap.size w w' := by
  go_enter Tryd.func22, Tryd.ntmps22
  go_wp2_with go_in
  exact bodyPost_ret (v := .tuple #[.agg #[.int .i64 6, .int .u32 51, .int .u32 5, .int .u32 1], .bool true]) (by simp [results, Tryd.results22, go_sem]) rfl ⟨rfl, by go_grown⟩
set_option maxRecDepth 100000 in
set_option maxHeartbeats 1000000 in
theorem of_lit44 (w : World) :
    Calls Tryd.prog 22 #[.int .i64 44] w fun e w' => e = .returned (.tuple #[.agg (kcells (kindOf 44)), .bool true]) ∧ Below w.heap.size w w' := by
  go_enter Tryd.func22, Tryd.ntmps22
  go_wp2_with go_in
  exact bodyPost_ret (v := .tuple #[.agg #[.int .i64 6, .int .u32 51, .int .u32 6, .int .u32 1], .bool true]) (by simp [results, Tryd.results22, go_sem]) rfl ⟨rfl, by go_grown⟩
set_option maxRecDepth 100000 in
set_option maxHeartbeats 1000000 in
theorem of_lit45 (w : World) :
    Calls Tryd.prog 22 #[.int .i64 45] w fun e w' => e = .returned (.tuple #[.agg (kcells (kindOf 45)), .bool true]) ∧ Below w.heap.size w w' := by
  go_enter Tryd.func22, Tryd.ntmps22
  go_wp2_with go_in
  exact bodyPost_ret (v := .tuple #[.agg #[.int .i64 6, .int .u32 51, .int .u32 7, .int .u32 1], .bool true]) (by simp [results, Tryd.results22, go_sem]) rfl ⟨rfl, by go_grown⟩
set_option maxRecDepth 100000 in
set_option maxHeartbeats 1000000 in
theorem of_lit46 (w : World) :
    Calls Tryd.prog 22 #[.int .i64 46] w fun e w' => e = .returned (.tuple #[.agg (kcells (kindOf 46)), .bool true]) ∧ Below w.heap.size w w' := by
  go_enter Tryd.func22, Tryd.ntmps22
  go_wp2_with go_in
  exact bodyPost_ret (v := .tuple #[.agg #[.int .i64 7, .int .u32 47, .int .u32 2, .int .u32 2], .bool true]) (by simp [results, Tryd.results22, go_sem]) rfl ⟨rfl, by go_grown⟩
set_option maxRecDepth 100000 in
set_option maxHeartbeats 1000000 in
theorem of_lit47 (w : World) :
    Calls Tryd.prog 22 #[.int .i64 47] w fun e w' => e = .returned (.tuple #[.agg (kcells (kindOf 47)), .bool true]) ∧ Below w.heap.size w w' := by
  go_enter Tryd.func22, Tryd.ntmps22
  go_wp2_with go_in
  exact bodyPost_ret (v := .tuple #[.agg #[.int .i64 7, .int .u32 47, .int .u32 2, .int .u32 3], .bool true]) (by simp [results, Tryd.results22, go_sem]) rfl ⟨rfl, by go_grown⟩
set_option maxRecDepth 100000 in
set_option maxHeartbeats 1000000 in
theorem of_lit48 (w : World) :
    Calls Tryd.prog 22 #[.int .i64 48] w fun e w' => e = .returned (.tuple #[.agg (kcells (kindOf 48)), .bool true]) ∧ Below w.heap.size w w' := by
  go_enter Tryd.func22, Tryd.ntmps22
  go_wp2_with go_in
  exact bodyPost_ret (v := .tuple #[.agg #[.int .i64 7, .int .u32 47, .int .u32 2, .int .u32 1], .bool true]) (by simp [results, Tryd.results22, go_sem]) rfl ⟨rfl, by go_grown⟩
set_option maxRecDepth 100000 in
set_option maxHeartbeats 1000000 in
theorem of_lit49 (w : World) :
    Calls Tryd.prog 22 #[.int .i64 49] w fun e w' => e = .returned (.tuple #[.agg (kcells (kindOf 49)), .bool true]) ∧ Below w.heap.size w w' := by
  go_enter Tryd.func22, Tryd.ntmps22
  go_wp2_with go_in
  exact bodyPost_ret (v := .tuple #[.agg #[.int .i64 7, .int .u32 47, .int .u32 2, .int .u32 0], .bool true]) (by simp [results, Tryd.results22, go_sem]) rfl ⟨rfl, by go_grown⟩
set_option maxRecDepth 100000 in
set_option maxHeartbeats 1000000 in
theorem of_lit50 (w : World) :
    Calls Tryd.prog 22 #[.int .i64 50] w fun e w' => e = .returned (.tuple #[.agg (kcells (kindOf 50)), .bool true]) ∧ Below w.heap.size w w' := by
  go_enter Tryd.func22, Tryd.ntmps22
  go_wp2_with go_in
  exact bodyPost_ret (v := .tuple #[.agg #[.int .i64 7, .int .u32 47, .int .u32 2, .int .u32 4], .bool true]) (by simp [results, Tryd.results22, go_sem]) rfl ⟨rfl, by go_grown⟩
set_option maxRecDepth 100000 in
set_option maxHeartbeats 1000000 in
theorem of_lit51 (w : World) :
    Calls Tryd.prog 22 #[.int .i64 51] w fun e w' => e = .returned (.tuple #[.agg (kcells (kindOf 51)), .bool true]) ∧ Below w.heap.size w w' := by
  go_enter Tryd.func22, Tryd.ntmps22
  go_wp2_with go_in
  exact bodyPost_ret (v := .tuple #[.agg #[.int .i64 7, .int .u32 47, .int .u32 2, .int .u32 12], .bool true]) (by simp [results, Tryd.results22, go_sem]) rfl ⟨rfl, by go_grown⟩
set_option maxRecDepth 100000 in
set_option maxHeartbeats 1000000 in
theorem of_lit52 (w : World) :
    Calls Tryd.prog 22 #[.int .i64 52] w fun e w' => e = .returned (.tuple #[.agg (kcells (kindOf 52)), .bool true]) ∧ Below w.heap.size w w' := by
  go_enter Tryd.func22, Tryd.ntmps22
  go_wp2_with go_in
  exact bodyPost_ret (v := .tuple #[.agg #[.int .i64 7, .int .u32 47, .int .u32 2, .int .u32 8], .bool true]) (by simp [results, Tryd.results22, go_sem]) rfl ⟨rfl, by go_grown⟩
set_option maxRecDepth 100000 in
set_option maxHeartbeats 1000000 in
theorem of_lit53 (w : World) :
    Calls Tryd.prog 22 #[.int .i64 53] w fun e w' => e = .returned (.tuple #[.agg (kcells (kindOf 53)), .bool true]) ∧ Below w.heap.size w w' := by
  go_enter Tryd.func22, Tryd.ntmps22
  go_wp2_with go_in
  exact bodyPost_ret (v := .tuple #[.agg #[.int .i64 7, .int .u32 47, .int .u32 2, .int .u32 16], .bool true]) (by simp [results, Tryd.results22, go_sem]) rfl ⟨rfl, by go_grown⟩
set_option maxRecDepth 100000 in
set_option maxHeartbeats 1000000 in
theorem of_lit54 (w : World) :
    Calls Tryd.prog 22 #[.int .i64 54] w fun e w' => e = .returned (.tuple #[.agg (kcells (kindOf 54)), .bool true]) ∧ Below w.heap.size w w' := by
  go_enter Tryd.func22, Tryd.ntmps22
  go_wp2_with go_in
  exact bodyPost_ret (v := .tuple #[.agg #[.int .i64 7, .int .u32 47, .int .u32 2, .int .u32 20], .bool true]) (by simp [results, Tryd.results22, go_sem]) rfl ⟨rfl, by go_grown⟩
set_option maxRecDepth 100000 in
set_option maxHeartbeats 1000000 in
theorem of_lit55 (w : World) :
    Calls Tryd.prog 22 #[.int .i64 55] w fun e w' => e = .returned (.tuple #[.agg (kcells (kindOf 55)), .bool true]) ∧ Below w.heap.size w w' := by
  go_enter Tryd.func22, Tryd.ntmps22
  go_wp2_with go_in
  exact bodyPost_ret (v := .tuple #[.agg #[.int .i64 7, .int .u32 47, .int .u32 2, .int .u32 24], .bool true]) (by simp [results, Tryd.results22, go_sem]) rfl ⟨rfl, by go_grown⟩
set_option maxRecDepth 100000 in
set_option maxHeartbeats 1000000 in
theorem of_lit56 (w : World) :
    Calls Tryd.prog 22 #[.int .i64 56] w fun e w' => e = .returned (.tuple #[.agg (kcells (kindOf 56)), .bool true]) ∧ Below w.heap.size w w' := by
  go_enter Tryd.func22, Tryd.ntmps22
  go_wp2_with go_in
  exact bodyPost_ret (v := .tuple #[.agg #[.int .i64 7, .int .u32 47, .int .u32 2, .int .u32 28], .bool true]) (by simp [results, Tryd.results22, go_sem]) rfl ⟨rfl, by go_grown⟩
set_option maxRecDepth 100000 in
set_option maxHeartbeats 1000000 in
theorem of_lit57 (w : World) :
    Calls Tryd.prog 22 #[.int .i64 57] w fun e w' => e = .returned (.tuple #[.agg (kcells (kindOf 57)), .bool true]) ∧ Below w.heap.size w w' := by
  go_enter Tryd.func22, Tryd.ntmps22
  go_wp2_with go_in
  exact bodyPost_ret (v := .tuple #[.agg #[.int .i64 2, .int .u32 15, .int .u32 0, .int .u32 0], .bool true]) (by simp [results, Tryd.results22, go_sem]) rfl ⟨rfl, by go_grown⟩
set_option maxRecDepth 100000 in
set_option maxHeartbeats 1000000 in
theorem of_lit58 (w : World) :
    Calls Tryd.prog 22 #[.int .i64 58] w fun e w' => e = .returned (.tuple #[.agg (kcells (kindOf 58)), .bool true]) ∧ Below w.heap.size w w' := by
  go_enter Tryd.func22, Tryd.ntmps22
  go_wp2_with go_in
  exact bodyPost_ret (v := .tuple #[.agg #[.int .i64 8, .int .u32 115, .int .u32 0, .int .u32 0], .bool true]) (by simp [results, Tryd.results22, go_sem]) rfl ⟨rfl, by go_grown⟩
set_option maxRecDepth 100000 in
set_option maxHeartbeats 1000000 in
theorem of_lit59 (w : World) :
    Calls Tryd.prog 22 #[.int .i64 59] w fun e w' => e = .returned (.tuple #[.agg (kcells (kindOf 59)), .bool true]) ∧ Below w.heap.size w w' := by
  go_enter Tryd.func22, Tryd.ntmps22
  go_wp2_with go_in
  exact bodyPost_ret (v := .tuple #[.agg #[.int .i64 8, .int .u32 115, .int .u32 0, .int .u32 1], .bool true]) (by simp [results, Tryd.results22, go_sem]) rfl ⟨rfl, by go_grown⟩
end Go.Proofs.YtlfnddmncbkjaacDoor.W

/- decode.of, whole. -/
namespace Go.Proofs.YtlfnddmncbkjaacDoor.W
set_option linter.unusedVariables false
set_option linter.unusedSimpArgs false
open Go.RowKit Fb
set_option maxRecDepth 100000 in
set_option maxHeartbeats 1000000 in
theorem of_no (op : Int) (w : World) (h : op < 1 ∨ 59 < op) :
    Calls Tryd.prog 22 #[.int .i64 op] w fun e w' => e = .returned (.tuple #[.agg (kcells (kindOf op)), .bool false]) ∧ Below w.heap.size w w' := by
  have hk : kindOf op = ⟨0, 0, 0, 0⟩ := by unfold kindOf knownOp; rw [if_neg (by simp; omega)]
  rw [hk]
  clear hk
  have f : ∀ c : Int, 1 ≤ c → c ≤ 59 → (op == c) = false := fun c h1 h2 => by simpa using (by omega : op ≠ c)
  have f1 := f 1 (by omega) (by omega)
  have f2 := f 2 (by omega) (by omega)
  have f3 := f 3 (by omega) (by omega)
  have f4 := f 4 (by omega) (by omega)
  have f25 := f 25 (by omega) (by omega)
  have f26 := f 26 (by omega) (by omega)
  have f27 := f 27 (by omega) (by omega)
  have f29 := f 29 (by omega) (by omega)
  have f35 := f 35 (by omega) (by omega)
  have f57 := f 57 (by omega) (by omega)
  have f58 := f 58 (by omega) (by omega)
  have f59 := f 59 (by omega) (by omega)
  clear f
  rcases h with h | h
  all_goals
    go_enter Tryd.func22, Tryd.ntmps22
    go_wp2_with go_in
    exact bodyPost_ret (v := .tuple #[.agg #[.int .i64 0, .int .u32 0, .int .u32 0, .int .u32 0], .bool false]) (by simp [results, Tryd.results22, go_sem]) rfl ⟨rfl, by go_grown⟩
theorem of_any (op : Int) (w : World) :
    Calls Tryd.prog 22 #[.int .i64 op] w fun e w' => e = .returned (.tuple #[.agg (kcells (kindOf op)), .bool (knownOp op)]) ∧ Below w.heap.size w w' := by
  by_cases h : op < 1 ∨ 59 < op
  · rw [show knownOp op = false from by unfold knownOp; simp; omega]
    exact of_no op w h
  · rw [show knownOp op = true from by unfold knownOp; simp; omega]
    have hc : op = 1 ∨ op = 2 ∨ op = 3 ∨ op = 4 ∨ op = 5 ∨ op = 6 ∨ op = 7 ∨ op = 8 ∨ op = 9 ∨ op = 10 ∨ op = 11 ∨ op = 12 ∨ op = 13 ∨ op = 14 ∨ op = 15 ∨ op = 16 ∨ op = 17 ∨ op = 18 ∨ op = 19 ∨ op = 20 ∨ op = 21 ∨ op = 22 ∨ op = 23 ∨ op = 24 ∨ op = 25 ∨ op = 26 ∨ op = 27 ∨ op = 28 ∨ op = 29 ∨ op = 30 ∨ op = 31 ∨ op = 32 ∨ op = 33 ∨ op = 34 ∨ op = 35 ∨ op = 36 ∨ op = 37 ∨ op = 38 ∨ op = 39 ∨ op = 40 ∨ op = 41 ∨ op = 42 ∨ op = 43 ∨ op = 44 ∨ op = 45 ∨ op = 46 ∨ op = 47 ∨ op = 48 ∨ op = 49 ∨ op = 50 ∨ op = 51 ∨ op = 52 ∨ op = 53 ∨ op = 54 ∨ op = 55 ∨ op = 56 ∨ op = 57 ∨ op = 58 ∨ op = 59 := by omega
    rcases hc with rfl | rfl | rfl | rfl | rfl | rfl | rfl | rfl | rfl | rfl | rfl | rfl | rfl | rfl | rfl | rfl | rfl | rfl | rfl | rfl | rfl | rfl | rfl | rfl | rfl | rfl | rfl | rfl | rfl | rfl | rfl | rfl | rfl | rfl | rfl | rfl | rfl | rfl | rfl | rfl | rfl | rfl | rfl | rfl | rfl | rfl | rfl | rfl | rfl | rfl | rfl | rfl | rfl | rfl | rfl | rfl | rfl | rfl | rfl
    · exact of_lit1 w
    · exact of_lit2 w
    · exact of_lit3 w
    · exact of_lit4 w
    · exact of_lit5 w
    · exact of_lit6 w
    · exact of_lit7 w
    · exact of_lit8 w
    · exact of_lit9 w
    · exact of_lit10 w
    · exact of_lit11 w
    · exact of_lit12 w
    · exact of_lit13 w
    · exact of_lit14 w
    · exact of_lit15 w
    · exact of_lit16 w
    · exact of_lit17 w
    · exact of_lit18 w
    · exact of_lit19 w
    · exact of_lit20 w
    · exact of_lit21 w
    · exact of_lit22 w
    · exact of_lit23 w
    · exact of_lit24 w
    · exact of_lit25 w
    · exact of_lit26 w
    · exact of_lit27 w
    · exact of_lit28 w
    · exact of_lit29 w
    · exact of_lit30 w
    · exact of_lit31 w
    · exact of_lit32 w
    · exact of_lit33 w
    · exact of_lit34 w
    · exact of_lit35 w
    · exact of_lit36 w
    · exact of_lit37 w
    · exact of_lit38 w
    · exact of_lit39 w
    · exact of_lit40 w
    · exact of_lit41 w
    · exact of_lit42 w
    · exact of_lit43 w
    · exact of_lit44 w
    · exact of_lit45 w
    · exact of_lit46 w
    · exact of_lit47 w
    · exact of_lit48 w
    · exact of_lit49 w
    · exact of_lit50 w
    · exact of_lit51 w
    · exact of_lit52 w
    · exact of_lit53 w
    · exact of_lit54 w
    · exact of_lit55 w
    · exact of_lit56 w
    · exact of_lit57 w
    · exact of_lit58 w
    · exact of_lit59 w
end Go.Proofs.YtlfnddmncbkjaacDoor.W
