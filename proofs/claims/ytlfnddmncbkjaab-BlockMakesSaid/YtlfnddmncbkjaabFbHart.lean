/- A hart as data, and as 37 cells. No program in sight. -/
import Derived.Test.YtlfnddmncbkjaabFbAgg
import Derived.Test.YtlfnddmncbkjaabFbWord
namespace Go.Proofs.Ytlfnddmncbkjaab.Fb
set_option linter.unusedVariables false
set_option linter.unusedSimpArgs false
open Go.RowKit

structure Hart where
  regs : List Int
  pc : Int
  held : Bool
  heldAt : Int
  state : Int
  cause : Int

def hlist (h : Hart) : List Value := h.regs.map (Value.int .u32) ++ [.int .u32 h.pc, .bool h.held, .int .u32 h.heldAt, .int .i64 h.state, .int .i64 h.cause]
def hcells (h : Hart) : Array Value := (hlist h).toArray

structure Hart.Wf (h : Hart) : Prop where
  len : h.regs.length = 32
  regs : ∀ x ∈ h.regs, U32 x
  pc : U32 h.pc
  heldAt : U32 h.heldAt
  state : -9223372036854775808 ≤ h.state ∧ h.state ≤ 9223372036854775807
  cause : -9223372036854775808 ≤ h.cause ∧ h.cause ≤ 9223372036854775807

theorem hcells_toList (h : Hart) : (hcells h).toList = hlist h := rfl
theorem hlist_length {h : Hart} (w : h.Wf) : (hlist h).length = 37 := by simp [hlist, w.len]
theorem hcells_size {h : Hart} (w : h.Wf) : (hcells h).size = 37 := by simp [hcells, hlist_length w]
theorem hlist_one (h : Hart) : ∀ v ∈ (hcells h).toList, v.oneCell' = true := by
  intro v hv
  simp only [hcells, hlist, List.mem_append, List.mem_map, List.mem_cons, List.not_mem_nil, or_false] at hv
  rcases hv with ⟨x, _, rfl⟩ | rfl | rfl | rfl | rfl | rfl <;> rfl
theorem hlist_reg {h : Hart} (w : h.Wf) (k : Nat) (hk : k < 32) : (hlist h)[k]? = some (.int .u32 (h.regs.getD k 0)) := by
  have : k < h.regs.length := by rw [w.len]; exact hk
  simp [hlist, List.getElem?_append, this]
theorem hlist_pc {h : Hart} (w : h.Wf) : (hlist h)[32]? = some (.int .u32 h.pc) := by simp [hlist, w.len]
theorem hlist_held {h : Hart} (w : h.Wf) : (hlist h)[33]? = some (.bool h.held) := by simp [hlist, w.len]
theorem hlist_heldAt {h : Hart} (w : h.Wf) : (hlist h)[34]? = some (.int .u32 h.heldAt) := by simp [hlist, w.len]
theorem hlist_state {h : Hart} (w : h.Wf) : (hlist h)[35]? = some (.int .i64 h.state) := by simp [hlist, w.len]
theorem hlist_cause {h : Hart} (w : h.Wf) : (hlist h)[36]? = some (.int .i64 h.cause) := by simp [hlist, w.len]
theorem At.get {w : World} {b off : Nat} {xs : List Value} (h : At w b off xs) {j : Nat} {v : Value} (hj : xs[j]? = some v) : w.cell? ⟨b, off + j, none⟩ = some v := by
  have hl : j < xs.length := (List.getElem?_eq_some_iff.1 hj).1
  rw [h j hl, ← hj, List.getElem?_eq_getElem hl]

/-- may a hart be? -/
def Hart.ok (h : Hart) : Bool :=
  (h.regs.getD 0 0 == 0) && (h.held || h.heldAt == 0) && ((h.state == 2 && decide (1 ≤ h.cause) && decide (h.cause ≤ 6)) || ((h.state == 0 || h.state == 1) && h.cause == 0))

def Harts (w : World) (v : Value) (hs : List Hart) : Prop := Sl w v 37 hs.length (hs.flatMap hlist) ∧ ∀ h ∈ hs, h.Wf

end Go.Proofs.Ytlfnddmncbkjaab.Fb
