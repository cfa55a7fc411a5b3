import Derived.Test.YtlfnddmncbkjaabZMA
import Derived.Test.YtlfnddmncbkjaabZWRef4Bytes
set_option linter.unusedVariables false
set_option linter.unusedSimpArgs false
set_option maxRecDepth 100000
set_option maxHeartbeats 4000000
namespace Go.Proofs.Ytlfnddmncbkjaab.W
open Go.RowKit Fb
theorem hart_lits (h : Hart) (wf : h.Wf) : ∃ la, Try.prog.keyLits 3 57 (hcells h).toList = some la := by
  have h1 := keyLits_arr (P := Try.prog) (d := 0) Try.underlying55 Try.underlying34 (by kernel_rfl) (by kernel_rfl) h.regs wf.len (fun x hx => wf_of_u32 (wf.regs x hx))
  have c1 : Try.prog.cellsOf 55 = 32 := by kernel_rfl
  have c2 : Try.prog.cellsOf 34 = 1 := by kernel_rfl
  have c3 : Try.prog.cellsOf 4 = 1 := by kernel_rfl
  have c4 : Try.prog.cellsOf 3 = 1 := by kernel_rfl
  have c5 : Try.prog.cellsOf 57 = 37 := by kernel_rfl
  have t1 : (hlist h).take 32 = h.regs.map (Value.int .u32) := by simp [hlist, wf.len]
  have t2 : ((hlist h).drop 32) = [.int .u32 h.pc, .bool h.held, .int .u32 h.heldAt, .int .i64 h.state, .int .i64 h.cause] := by simp [hlist, wf.len]
  have d3 : ((hlist h).drop 33) = [.bool h.held, .int .u32 h.heldAt, .int .i64 h.state, .int .i64 h.cause] := by rw [show 33 = 32 + 1 from rfl, ← List.drop_drop, t2]; rfl
  have d4 : ((hlist h).drop 34) = [.int .u32 h.heldAt, .int .i64 h.state, .int .i64 h.cause] := by rw [show 34 = 32 + 2 from rfl, ← List.drop_drop, t2]; rfl
  have d5 : ((hlist h).drop 35) = [.int .i64 h.state, .int .i64 h.cause] := by rw [show 35 = 32 + 3 from rfl, ← List.drop_drop, t2]; rfl
  have d6 : ((hlist h).drop 36) = [.int .i64 h.cause] := by rw [show 36 = 32 + 4 from rfl, ← List.drop_drop, t2]; rfl
  have w1 := wf_of_u32 wf.pc
  have w2 := wf_of_u32 wf.heldAt
  have w3 := wf_of_i64 wf.state
  have w4 := wf_of_i64 wf.cause
  unfold Program.keyLits
  rw [Try.underlying57]
  simp only [hcells_toList, hlist_length wf, c5, true_and]
  rw [if_pos (by simp)]
  simp only [List.mapM_cons, List.mapM_nil, c1, c2, c3, c4, List.drop_zero, t1, t2, d3, d4, d5, d6, h1]
  simp [Program.keyLits, Try.underlying34, Try.underlying4, Try.underlying3, w1, w2, w3, w4]
theorem hart_neq (h : Hart) (wf : h.Wf) (w : World) : (binOp .neq 57 (.agg (hcells h)) (.agg (hcells h))).run Try.prog w = .ok (.bool false) w := by
  obtain ⟨la, hl⟩ := hart_lits h wf
  exact neq_same w (m := 3) (by omega) (by kernel_rfl) (by unfold Value.formed; rw [Try.underlying57]; simp only [hcells_size wf]; kernel_rfl) hl
theorem words4_same (v v' : Value) (l : List Int) (w : World) (hv : Ints .u32 w v l) (hv' : Ints .u32 w v' l) :
    Calls Try.prog 43 #[v, v'] w fun e w' => e = .returned (.bool true) ∧ Below w.heap.size w w' := by
  obtain ⟨ao, cap, rfl, hc, hm, _, ho⟩ := hv.open
  obtain ⟨ao', cap', rfl, hc', hm', _, ho'⟩ := hv'.open
  unfold maxLen at hm hm'
  have HO := Lib.hid ho
  have HO' := Lib.hid ho'
  clear ho ho' hv hv'
  go_enter Try.func43, Try.ntmps43
  go_wp2
  go_loopw [5] (fun i wr => ∃ k : Nat, i = .int .i64 k ∧ k ≤ l.length ∧ ∃ n, wr = w.drewN n) (fun i _ => l.length - (intOf i).toNat)
  case atStart => exact ⟨0, rfl, by omega, 0, rfl⟩
  case round =>
    obtain ⟨k, rfl, hk, n, rfl⟩ := hrel
    by_cases hlt : k < l.length
    · obtain ⟨b, off, rfl, _, hcell⟩ := HO.out (by intro e; rw [e] at hlt; simp at hlt)
      obtain ⟨b', off', rfl, _, hcell'⟩ := HO'.out (by intro e; rw [e] at hlt; simp at hlt)
      have c1 := hcell k hlt
      have c2 := hcell' k hlt
      have i1 : (0 : Int) ≤ (k : Int) := by omega
      have i2 : (k : Int) < (l.length : Int) := by omega
      clear hcell hcell'
      generalize l.getD k 0 = x at *
      go_wp2
      go_quiet (fail)
      go_wp2
      go_roundw
      case rel => exact ⟨k + 1, by go_num, by omega, _, rfl⟩
      case measure => simp [intOf]; omega
    · go_wp2
      go_ret
      exact ⟨rfl, below_drewN (Below.refl _ _) _⟩
end Go.Proofs.Ytlfnddmncbkjaab.W
