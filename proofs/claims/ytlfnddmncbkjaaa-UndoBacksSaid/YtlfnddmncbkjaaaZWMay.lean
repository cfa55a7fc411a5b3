import Derived.Test.YtlfnddmncbkjaaaZMA
set_option linter.unusedVariables false
set_option linter.unusedSimpArgs false
set_option maxRecDepth 100000
set_option maxHeartbeats 4000000
namespace Go.Proofs.Ytlfnddmncbkjaaa.W
open Go.RowKit Fb
theorem box_hart (h : Hart) (w : World) (t : TypeId) : At (w.alloc (.cells (hcells h) t)) w.heap.size 0 (hlist h) := at_alloc w (hlist h) t (0, 0)
theorem may_any (h : Hart) (wf : h.Wf) (w : World) :
    Calls Try.prog 81 #[.agg (hcells h)] w fun e w' => e = .returned (.bool h.ok) ∧ Below w.heap.size w w' := by
  have hb := box_hart h w 86
  have c0 : (w.alloc (.cells (hcells h) 86)).cell? ⟨w.heap.size, 0, none⟩ = some (.int .u32 (h.regs.getD 0 0)) := hb.get (j := 0) (hlist_reg wf 0 (by omega))
  have c33 : (w.alloc (.cells (hcells h) 86)).cell? ⟨w.heap.size, 33, none⟩ = some (.bool h.held) := by simpa using hb.get (hlist_held wf)
  have c34 : (w.alloc (.cells (hcells h) 86)).cell? ⟨w.heap.size, 34, none⟩ = some (.int .u32 h.heldAt) := by simpa using hb.get (hlist_heldAt wf)
  have c35 : (w.alloc (.cells (hcells h) 86)).cell? ⟨w.heap.size, 35, none⟩ = some (.int .i64 h.state) := by simpa using hb.get (hlist_state wf)
  have c36 : (w.alloc (.cells (hcells h) 86)).cell? ⟨w.heap.size, 36, none⟩ = some (.int .i64 h.cause) := by simpa using hb.get (hlist_cause wf)
  have HOK := Lib.hid (show h.ok = ((h.regs.getD 0 0 == 0) && (h.held || h.heldAt == 0) && ((h.state == 2 && decide (1 ≤ h.cause) && decide (h.cause ≤ 6)) || ((h.state == 0 || h.state == 1) && h.cause == 0))) from rfl)
  generalize h.ok = ok at *
  generalize h.regs.getD 0 0 = r0 at *
  generalize h.held = hd at *
  generalize h.heldAt = ha at *
  generalize h.state = st at *
  generalize h.cause = ca at *
  clear hb
  go_enter Try.func81, Try.ntmps81
  go_wp2
  all_goals go_ret
  all_goals refine ⟨ret_bool ?_, by go_grown⟩
  all_goals rw [HOK.out]
  all_goals clear HOK c0 c33 c34 c35 c36
  all_goals (try simp only [beq_iff_eq, beq_eq_false_iff_ne, ne_eq] at *)
  all_goals first | (simp [*]; done) | (simp [*]; omega) | (rw [Bool.eq_iff_iff]; simp [*]; omega) | (simp_all; done) | (simp_all; omega)
theorem may4_any (h : Hart) (wf : h.Wf) (w : World) :
    Calls Try.prog 43 #[.agg (hcells h)] w fun e w' => e = .returned (.bool h.ok) ∧ Below w.heap.size w w' := by
  have hb := box_hart h w 86
  have c0 : (w.alloc (.cells (hcells h) 86)).cell? ⟨w.heap.size, 0, none⟩ = some (.int .u32 (h.regs.getD 0 0)) := hb.get (j := 0) (hlist_reg wf 0 (by omega))
  have c33 : (w.alloc (.cells (hcells h) 86)).cell? ⟨w.heap.size, 33, none⟩ = some (.bool h.held) := by simpa using hb.get (hlist_held wf)
  have c34 : (w.alloc (.cells (hcells h) 86)).cell? ⟨w.heap.size, 34, none⟩ = some (.int .u32 h.heldAt) := by simpa using hb.get (hlist_heldAt wf)
  have c35 : (w.alloc (.cells (hcells h) 86)).cell? ⟨w.heap.size, 35, none⟩ = some (.int .i64 h.state) := by simpa using hb.get (hlist_state wf)
  have c36 : (w.alloc (.cells (hcells h) 86)).cell? ⟨w.heap.size, 36, none⟩ = some (.int .i64 h.cause) := by simpa using hb.get (hlist_cause wf)
  have HOK := Lib.hid (show h.ok = ((h.regs.getD 0 0 == 0) && (h.held || h.heldAt == 0) && ((h.state == 2 && decide (1 ≤ h.cause) && decide (h.cause ≤ 6)) || ((h.state == 0 || h.state == 1) && h.cause == 0))) from rfl)
  generalize h.ok = ok at *
  generalize h.regs.getD 0 0 = r0 at *
  generalize h.held = hd at *
  generalize h.heldAt = ha at *
  generalize h.state = st at *
  generalize h.cause = ca at *
  clear hb
  go_enter Try.func43, Try.ntmps43
  go_wp2
  all_goals go_ret
  all_goals refine ⟨ret_bool ?_, by go_grown⟩
  all_goals rw [HOK.out]
  all_goals clear HOK c0 c33 c34 c35 c36
  all_goals (try simp only [beq_iff_eq, beq_eq_false_iff_ne, ne_eq] at *)
  all_goals first | (simp [*]; done) | (simp [*]; omega) | (rw [Bool.eq_iff_iff]; simp [*]; omega) | (simp_all; done) | (simp_all; omega)
end Go.Proofs.Ytlfnddmncbkjaaa.W
