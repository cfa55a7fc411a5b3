/- hart.Core.Do, walked: LUI, JAL, JALR. -/
import Derived.Test.YtlfnddmncbkjaabZWHart2
import Derived.Deep.RegionHeld3
namespace Go.Proofs.Ytlfnddmncbkjaab.W
set_option linter.unusedVariables false
set_option linter.unusedSimpArgs false
open Go.RowKit Fb
section
variable {cp hb ho : Nat} {vm : Value} {d : CoreD} {w : World}
set_option maxRecDepth 100000 in
set_option maxHeartbeats 800000 in
theorem do_lui (h : CoreAt cp hb ho vm 34 w d) (wf : d.Wf) (hlen : d.out.length < 1099511627776) (kd k1 k2 : Nat) (imm : Int) (hd : kd < 32) (h1 : k1 < 32) (h2 : k2 < 32) (hi : -2147483648 ≤ imm ∧ imm ≤ 2147483647) :
    Calls Try.prog 117 #[.pointer (some ⟨cp, 0, none⟩), .agg #[.int .i64 1, .int .i64 kd, .int .i64 k1, .int .i64 k2, .int .i32 imm]] w fun e w' => e = .returned (.tuple #[]) ∧ CoreAt cp hb ho vm 34 w' (doS ⟨1, kd, k1, k2, imm⟩ d) ∧ Cgo cp hb ho vm 34 w w' := by
  obtain ⟨i0, i1⟩ := hi
  obtain ⟨xa, hxa⟩ : ∃ x, x = d.h.regs.getD k1 0 := ⟨_, rfl⟩
  obtain ⟨xb, hxb⟩ : ∃ x, x = d.h.regs.getD k2 0 := ⟨_, rfl⟩
  obtain ⟨xn, hxn⟩ : ∃ x, x = imm % 4294967296 := ⟨_, rfl⟩
  obtain ⟨pc, hpc⟩ : ∃ x, x = d.h.pc := ⟨_, rfl⟩
  have era : d.h.reg (k1 : Int) = xa := by rw [hxa]; rfl
  have erb : d.h.reg (k2 : Int) = xb := by rw [hxb]; rfl
  have ua : U32 xa := by rw [← era]; exact reg_u wf.h _
  have ub : U32 xb := by rw [← erb]; exact reg_u wf.h _
  have un : U32 xn := by rw [hxn]; exact mod_lo _
  have up : U32 pc := by rw [hpc]; exact wf.h.pc
  have e : doS ⟨1, kd, k1, k2, imm⟩ d = (d.set kd xn).setPc ((pc + 4) % 4294967296) := by
    unfold doS
    dsimp only
    rw [era, erb, ← hxn, ← hpc]
    rw [if_pos (by omega)]
  rw [e]
  clear e
  have hne := h.hbl
  have HA := Lib.hid ua
  have HB := Lib.hid ub
  have HN := Lib.hid un
  have HU := Lib.hid up
  obtain ⟨w1, hw1⟩ : ∃ w1, w1 = w.alloc (.cells #[.int .i64 1, .int .i64 kd, .int .i64 k1, .int .i64 k2, .int .i32 imm] 38) := ⟨_, rfl⟩
  have H1 : Hid (CoreAt cp hb ho vm 34 w1 d) := Lib.hid (by rw [hw1]; exact h.below (Below.alloc (Below.refl _ _) (Nat.le_refl _) _))
  have G1 : Hid (Cgo cp hb ho vm 34 w w1) := Lib.hid (by rw [hw1]; exact Cgo.of_below (Below.alloc (Below.refl _ _) (Nat.le_refl _) _) h.hlt)
  have hbx : cp < w.heap.size := h.lt
  have HX : Hid (w1.heap[w.heap.size]? = some (.cells #[.int .i64 1, .int .i64 kd, .int .i64 k1, .int .i64 k2, .int .i32 imm] 38 (0, 0))) := Lib.hid (by rw [hw1]; exact heap_alloc_new _ _)
  have q0 : (w1).cell? ⟨w.heap.size, 0, none⟩ = some (.int .i64 1) := by rw [hw1]; go_cell
  have q1 : (w1).cell? ⟨w.heap.size, 1, none⟩ = some (.int .i64 kd) := by rw [hw1]; go_cell
  have q2 : (w1).cell? ⟨w.heap.size, 2, none⟩ = some (.int .i64 k1) := by rw [hw1]; go_cell
  have q3 : (w1).cell? ⟨w.heap.size, 3, none⟩ = some (.int .i64 k2) := by rw [hw1]; go_cell
  have q4 : (w1).cell? ⟨w.heap.size, 4, none⟩ = some (.int .i32 imm) := by rw [hw1]; go_cell
  have HW1 := Lib.hid hw1
  clear hw1 h
  have hp := H1.out.ptr
  have hca := H1.out.hart.get (hlist_reg wf.h k1 h1)
  have hcb := H1.out.hart.get (hlist_reg wf.h k2 h2)
  have hc32 := H1.out.hart.get (hlist_pc wf.h)
  rw [← hxa] at hca
  rw [← hxb] at hcb
  rw [← hpc] at hc32
  have HPC := Lib.hid hpc
  have HIM := Lib.hid hxn
  clear hxa hxb era erb hpc ua ub un up hxn
  obtain ⟨b1, b2⟩ := HU.out
  have j1 : (k1 : Int) < 32 := by omega
  have j2 : (k2 : Int) < 32 := by omega
  go_enter Try.func117, Try.ntmps117
  go_upto_region 1 with (fail)
  rw [← HW1.out]
  go_quiet (fail)
  rw [← HIM.out]
  clear hca hcb
  go_upto_region 37 with (go_at_call 128; refine (set_any (H1.out.drewN _) wf.h kd hd _).mono ?_; rintro e w2 ⟨rfl, hc, hg⟩)
  have HG : Hid (Cgo cp hb ho vm 34 w w2) := Lib.hid (((G1.out.drewN _)).trans hg)
  have wf2 := (wf.set kd xn HN.out).h
  clear hg q0 q1 q2 q3 q4
  clear hp hc32
  have hp := hc.ptr
  have h32 := hc.hart.get (hlist_pc wf2)
  have f32 := hc.hfz (ho + 32)
  have HC := Lib.hid hc
  clear hc
  go_wp2_with fail
  go_end0
  exact ⟨rfl, HC.out.setHart 32 _ _ (hlist_setPc wf2.len _) (by rw [hlist_length wf2]; omega), HG.out.trans (Cgo.setHart _ 32 (by omega) _)⟩
set_option maxRecDepth 100000 in
set_option maxHeartbeats 800000 in
theorem do_jal (h : CoreAt cp hb ho vm 34 w d) (wf : d.Wf) (hlen : d.out.length < 1099511627776) (kd k1 k2 : Nat) (imm : Int) (hd : kd < 32) (h1 : k1 < 32) (h2 : k2 < 32) (hi : -2147483648 ≤ imm ∧ imm ≤ 2147483647) :
    Calls Try.prog 117 #[.pointer (some ⟨cp, 0, none⟩), .agg #[.int .i64 3, .int .i64 kd, .int .i64 k1, .int .i64 k2, .int .i32 imm]] w fun e w' => e = .returned (.tuple #[]) ∧ CoreAt cp hb ho vm 34 w' (doS ⟨3, kd, k1, k2, imm⟩ d) ∧ Cgo cp hb ho vm 34 w w' := by
  obtain ⟨i0, i1⟩ := hi
  obtain ⟨xa, hxa⟩ : ∃ x, x = d.h.regs.getD k1 0 := ⟨_, rfl⟩
  obtain ⟨xb, hxb⟩ : ∃ x, x = d.h.regs.getD k2 0 := ⟨_, rfl⟩
  obtain ⟨xn, hxn⟩ : ∃ x, x = imm % 4294967296 := ⟨_, rfl⟩
  obtain ⟨pc, hpc⟩ : ∃ x, x = d.h.pc := ⟨_, rfl⟩
  have era : d.h.reg (k1 : Int) = xa := by rw [hxa]; rfl
  have erb : d.h.reg (k2 : Int) = xb := by rw [hxb]; rfl
  have ua : U32 xa := by rw [← era]; exact reg_u wf.h _
  have ub : U32 xb := by rw [← erb]; exact reg_u wf.h _
  have un : U32 xn := by rw [hxn]; exact mod_lo _
  have up : U32 pc := by rw [hpc]; exact wf.h.pc
  have e : doS ⟨3, kd, k1, k2, imm⟩ d = (d.set kd ((pc + 4) % 4294967296)).setPc ((pc + xn) % 4294967296) := by
    unfold doS
    dsimp only
    rw [era, erb, ← hxn, ← hpc]
    rw [if_neg (by omega), if_neg (by omega), if_pos (by omega)]
  rw [e]
  clear e
  have hne := h.hbl
  have HA := Lib.hid ua
  have HB := Lib.hid ub
  have HN := Lib.hid un
  have HU := Lib.hid up
  obtain ⟨w1, hw1⟩ : ∃ w1, w1 = w.alloc (.cells #[.int .i64 3, .int .i64 kd, .int .i64 k1, .int .i64 k2, .int .i32 imm] 38) := ⟨_, rfl⟩
  have H1 : Hid (CoreAt cp hb ho vm 34 w1 d) := Lib.hid (by rw [hw1]; exact h.below (Below.alloc (Below.refl _ _) (Nat.le_refl _) _))
  have G1 : Hid (Cgo cp hb ho vm 34 w w1) := Lib.hid (by rw [hw1]; exact Cgo.of_below (Below.alloc (Below.refl _ _) (Nat.le_refl _) _) h.hlt)
  have hbx : cp < w.heap.size := h.lt
  have HX : Hid (w1.heap[w.heap.size]? = some (.cells #[.int .i64 3, .int .i64 kd, .int .i64 k1, .int .i64 k2, .int .i32 imm] 38 (0, 0))) := Lib.hid (by rw [hw1]; exact heap_alloc_new _ _)
  have q0 : (w1).cell? ⟨w.heap.size, 0, none⟩ = some (.int .i64 3) := by rw [hw1]; go_cell
  have q1 : (w1).cell? ⟨w.heap.size, 1, none⟩ = some (.int .i64 kd) := by rw [hw1]; go_cell
  have q2 : (w1).cell? ⟨w.heap.size, 2, none⟩ = some (.int .i64 k1) := by rw [hw1]; go_cell
  have q3 : (w1).cell? ⟨w.heap.size, 3, none⟩ = some (.int .i64 k2) := by rw [hw1]; go_cell
  have q4 : (w1).cell? ⟨w.heap.size, 4, none⟩ = some (.int .i32 imm) := by rw [hw1]; go_cell
  have HW1 := Lib.hid hw1
  clear hw1 h
  have hp := H1.out.ptr
  have hca := H1.out.hart.get (hlist_reg wf.h k1 h1)
  have hcb := H1.out.hart.get (hlist_reg wf.h k2 h2)
  have hc32 := H1.out.hart.get (hlist_pc wf.h)
  rw [← hxa] at hca
  rw [← hxb] at hcb
  rw [← hpc] at hc32
  have HPC := Lib.hid hpc
  have HIM := Lib.hid hxn
  clear hxa hxb era erb hpc ua ub un up hxn
  obtain ⟨b1, b2⟩ := HU.out
  have j1 : (k1 : Int) < 32 := by omega
  have j2 : (k2 : Int) < 32 := by omega
  go_enter Try.func117, Try.ntmps117
  go_upto_region 1 with (fail)
  rw [← HW1.out]
  go_quiet (fail)
  rw [← HIM.out]
  clear hca hcb
  obtain ⟨n0, n1⟩ := HN.out
  go_upto_region 10 with (go_at_call 128; refine (set_any (H1.out.drewN _) wf.h kd hd _).mono ?_; rintro e w2 ⟨rfl, hc, hg⟩)
  have HG : Hid (Cgo cp hb ho vm 34 w w2) := Lib.hid (((G1.out.drewN _)).trans hg)
  have wf2 := (wf.set kd ((pc + 4) % 4294967296) (mod_lo _)).h
  clear hg q0 q1 q2 q3 q4
  clear hp hc32
  have hp := hc.ptr
  have h32 := hc.hart.get (hlist_pc wf2)
  have ep : (d.set kd ((pc + 4) % 4294967296)).h.pc = pc := by rw [HPC.out]; unfold CoreD.set Hart.setReg; split <;> rfl
  rw [ep] at h32
  have f32 := hc.hfz (ho + 32)
  have HC := Lib.hid hc
  clear hc
  go_wp2_with fail
  go_end0
  exact ⟨rfl, HC.out.setHart 32 _ _ (hlist_setPc wf2.len _) (by rw [hlist_length wf2]; omega), HG.out.trans (Cgo.setHart _ 32 (by omega) _)⟩
set_option maxRecDepth 100000 in
set_option maxHeartbeats 800000 in
theorem do_jalr (h : CoreAt cp hb ho vm 34 w d) (wf : d.Wf) (hlen : d.out.length < 1099511627776) (kd k1 k2 : Nat) (imm : Int) (hd : kd < 32) (h1 : k1 < 32) (h2 : k2 < 32) (hi : -2147483648 ≤ imm ∧ imm ≤ 2147483647) :
    Calls Try.prog 117 #[.pointer (some ⟨cp, 0, none⟩), .agg #[.int .i64 4, .int .i64 kd, .int .i64 k1, .int .i64 k2, .int .i32 imm]] w fun e w' => e = .returned (.tuple #[]) ∧ CoreAt cp hb ho vm 34 w' (doS ⟨4, kd, k1, k2, imm⟩ d) ∧ Cgo cp hb ho vm 34 w w' := by
  obtain ⟨i0, i1⟩ := hi
  obtain ⟨xa, hxa⟩ : ∃ x, x = d.h.regs.getD k1 0 := ⟨_, rfl⟩
  obtain ⟨xb, hxb⟩ : ∃ x, x = d.h.regs.getD k2 0 := ⟨_, rfl⟩
  obtain ⟨xn, hxn⟩ : ∃ x, x = imm % 4294967296 := ⟨_, rfl⟩
  obtain ⟨pc, hpc⟩ : ∃ x, x = d.h.pc := ⟨_, rfl⟩
  have era : d.h.reg (k1 : Int) = xa := by rw [hxa]; rfl
  have erb : d.h.reg (k2 : Int) = xb := by rw [hxb]; rfl
  have ua : U32 xa := by rw [← era]; exact reg_u wf.h _
  have ub : U32 xb := by rw [← erb]; exact reg_u wf.h _
  have un : U32 xn := by rw [hxn]; exact mod_lo _
  have up : U32 pc := by rw [hpc]; exact wf.h.pc
  have e : doS ⟨4, kd, k1, k2, imm⟩ d = (d.set kd ((pc + 4) % 4294967296)).setPc ((xa + xn) % 4294967296 - (xa + xn) % 4294967296 % 2) := by
    unfold doS
    dsimp only
    rw [era, erb, ← hxn, ← hpc]
    rw [if_neg (by omega), if_neg (by omega), if_neg (by omega), if_pos (by omega)]
  rw [e]
  clear e
  obtain ⟨xt, hxt⟩ : ∃ x, x = (xa + xn) % 4294967296 - (xa + xn) % 4294967296 % 2 := ⟨_, rfl⟩
  rw [← hxt]
  have HT := Lib.hid hxt
  clear hxt
  have hne := h.hbl
  have HA := Lib.hid ua
  have HB := Lib.hid ub
  have HN := Lib.hid un
  have HU := Lib.hid up
  obtain ⟨w1, hw1⟩ : ∃ w1, w1 = w.alloc (.cells #[.int .i64 4, .int .i64 kd, .int .i64 k1, .int .i64 k2, .int .i32 imm] 38) := ⟨_, rfl⟩
  have H1 : Hid (CoreAt cp hb ho vm 34 w1 d) := Lib.hid (by rw [hw1]; exact h.below (Below.alloc (Below.refl _ _) (Nat.le_refl _) _))
  have G1 : Hid (Cgo cp hb ho vm 34 w w1) := Lib.hid (by rw [hw1]; exact Cgo.of_below (Below.alloc (Below.refl _ _) (Nat.le_refl _) _) h.hlt)
  have hbx : cp < w.heap.size := h.lt
  have HX : Hid (w1.heap[w.heap.size]? = some (.cells #[.int .i64 4, .int .i64 kd, .int .i64 k1, .int .i64 k2, .int .i32 imm] 38 (0, 0))) := Lib.hid (by rw [hw1]; exact heap_alloc_new _ _)
  have q0 : (w1).cell? ⟨w.heap.size, 0, none⟩ = some (.int .i64 4) := by rw [hw1]; go_cell
  have q1 : (w1).cell? ⟨w.heap.size, 1, none⟩ = some (.int .i64 kd) := by rw [hw1]; go_cell
  have q2 : (w1).cell? ⟨w.heap.size, 2, none⟩ = some (.int .i64 k1) := by rw [hw1]; go_cell
  have q3 : (w1).cell? ⟨w.heap.size, 3, none⟩ = some (.int .i64 k2) := by rw [hw1]; go_cell
  have q4 : (w1).cell? ⟨w.heap.size, 4, none⟩ = some (.int .i32 imm) := by rw [hw1]; go_cell
  have HW1 := Lib.hid hw1
  clear hw1 h
  have hp := H1.out.ptr
  have hca := H1.out.hart.get (hlist_reg wf.h k1 h1)
  have hcb := H1.out.hart.get (hlist_reg wf.h k2 h2)
  have hc32 := H1.out.hart.get (hlist_pc wf.h)
  rw [← hxa] at hca
  rw [← hxb] at hcb
  rw [← hpc] at hc32
  have HPC := Lib.hid hpc
  have HIM := Lib.hid hxn
  clear hxa hxb era erb hpc ua ub un up hxn
  obtain ⟨b1, b2⟩ := HU.out
  have j1 : (k1 : Int) < 32 := by omega
  have j2 : (k2 : Int) < 32 := by omega
  go_enter Try.func117, Try.ntmps117
  go_upto_region 1 with (fail)
  rw [← HW1.out]
  go_quiet (fail)
  rw [← HIM.out]
  clear hca hcb
  obtain ⟨n0, n1⟩ := HN.out
  obtain ⟨a0, a1⟩ := HA.out
  have hand : bits .andNot .u32 ((xa + xn) % 4294967296) 1 = xt := by rw [HT.out]; exact andNot1 _ (mod_lo _)
  go_upto_region 37 with (go_at_call 128; refine (set_any (H1.out.drewN _) wf.h kd hd _).mono ?_; rintro e w2 ⟨rfl, hc, hg⟩)
  have HG : Hid (Cgo cp hb ho vm 34 w w2) := Lib.hid (((G1.out.drewN _)).trans hg)
  have wf2 := (wf.set kd ((pc + 4) % 4294967296) (mod_lo _)).h
  clear hg q0 q1 q2 q3 q4
  clear hp hc32
  have hp := hc.ptr
  have h32 := hc.hart.get (hlist_pc wf2)
  have f32 := hc.hfz (ho + 32)
  have HC := Lib.hid hc
  clear hc
  go_wp2_with fail
  go_end0
  exact ⟨rfl, HC.out.setHart 32 _ _ (hlist_setPc wf2.len _) (by rw [hlist_length wf2]; omega), HG.out.trans (Cgo.setHart _ 32 (by omega) _)⟩
end
end Go.Proofs.Ytlfnddmncbkjaab.W

/- hart.Core.Do, walked: branches. -/
namespace Go.Proofs.Ytlfnddmncbkjaab.W
set_option linter.unusedVariables false
set_option linter.unusedSimpArgs false
open Go.RowKit Fb
section
variable {cp hb ho : Nat} {vm : Value} {d : CoreD} {w : World}
set_option maxRecDepth 100000 in
set_option maxHeartbeats 800000 in
theorem do_branch_true (h : CoreAt cp hb ho vm 34 w d) (wf : d.Wf) (hlen : d.out.length < 1099511627776) (op : Int) (kd k1 k2 : Nat) (imm : Int) (hop : 5 ≤ op ∧ op ≤ 10) (hd : kd < 32) (h1 : k1 < 32) (h2 : k2 < 32) (hq : holds op (d.h.reg k1) (d.h.reg k2) = true) (hi : -2147483648 ≤ imm ∧ imm ≤ 2147483647) :
    Calls Try.prog 117 #[.pointer (some ⟨cp, 0, none⟩), .agg #[.int .i64 op, .int .i64 kd, .int .i64 k1, .int .i64 k2, .int .i32 imm]] w fun e w' => e = .returned (.tuple #[]) ∧ CoreAt cp hb ho vm 34 w' (doS ⟨op, kd, k1, k2, imm⟩ d) ∧ Cgo cp hb ho vm 34 w w' := by
  obtain ⟨o0, o1⟩ := hop
  have f1 : (op == 1) = false := beq_eq_false_iff_ne.2 (by omega)
  have f2 : (op == 2) = false := beq_eq_false_iff_ne.2 (by omega)
  have f3 : (op == 3) = false := beq_eq_false_iff_ne.2 (by omega)
  have f4 : (op == 4) = false := beq_eq_false_iff_ne.2 (by omega)
  obtain ⟨i0, i1⟩ := hi
  obtain ⟨xa, hxa⟩ : ∃ x, x = d.h.regs.getD k1 0 := ⟨_, rfl⟩
  obtain ⟨xb, hxb⟩ : ∃ x, x = d.h.regs.getD k2 0 := ⟨_, rfl⟩
  obtain ⟨xn, hxn⟩ : ∃ x, x = imm % 4294967296 := ⟨_, rfl⟩
  obtain ⟨pc, hpc⟩ : ∃ x, x = d.h.pc := ⟨_, rfl⟩
  have era : d.h.reg (k1 : Int) = xa := by rw [hxa]; rfl
  have erb : d.h.reg (k2 : Int) = xb := by rw [hxb]; rfl
  rw [era, erb] at hq
  have ua : U32 xa := by rw [← era]; exact reg_u wf.h _
  have ub : U32 xb := by rw [← erb]; exact reg_u wf.h _
  have un : U32 xn := by rw [hxn]; exact mod_lo _
  have up : U32 pc := by rw [hpc]; exact wf.h.pc
  have e : doS ⟨op, kd, k1, k2, imm⟩ d = d.setPc (if holds op xa xb = true then (pc + xn) % 4294967296 else (pc + 4) % 4294967296) := by
    unfold doS
    dsimp only
    rw [era, erb, ← hxn, ← hpc]
    rw [if_neg (by omega), if_neg (by omega), if_neg (by omega), if_neg (by omega), if_pos (by omega)]
  rw [e]
  clear e
  have HH := Lib.hid (fun W => holds_any op xa xb W ua.1 ua.2 ub.1 ub.2)
  rw [show holds op xa xb = true from hq] at HH
  rw [show holds op xa xb = true from hq, if_pos rfl]
  have hne := h.hbl
  have HA := Lib.hid ua
  have HB := Lib.hid ub
  have HN := Lib.hid un
  have HU := Lib.hid up
  obtain ⟨w1, hw1⟩ : ∃ w1, w1 = w.alloc (.cells #[.int .i64 op, .int .i64 kd, .int .i64 k1, .int .i64 k2, .int .i32 imm] 38) := ⟨_, rfl⟩
  have H1 : Hid (CoreAt cp hb ho vm 34 w1 d) := Lib.hid (by rw [hw1]; exact h.below (Below.alloc (Below.refl _ _) (Nat.le_refl _) _))
  have G1 : Hid (Cgo cp hb ho vm 34 w w1) := Lib.hid (by rw [hw1]; exact Cgo.of_below (Below.alloc (Below.refl _ _) (Nat.le_refl _) _) h.hlt)
  have hbx : cp < w.heap.size := h.lt
  have HX : Hid (w1.heap[w.heap.size]? = some (.cells #[.int .i64 op, .int .i64 kd, .int .i64 k1, .int .i64 k2, .int .i32 imm] 38 (0, 0))) := Lib.hid (by rw [hw1]; exact heap_alloc_new _ _)
  have q0 : (w1).cell? ⟨w.heap.size, 0, none⟩ = some (.int .i64 op) := by rw [hw1]; go_cell
  have q1 : (w1).cell? ⟨w.heap.size, 1, none⟩ = some (.int .i64 kd) := by rw [hw1]; go_cell
  have q2 : (w1).cell? ⟨w.heap.size, 2, none⟩ = some (.int .i64 k1) := by rw [hw1]; go_cell
  have q3 : (w1).cell? ⟨w.heap.size, 3, none⟩ = some (.int .i64 k2) := by rw [hw1]; go_cell
  have q4 : (w1).cell? ⟨w.heap.size, 4, none⟩ = some (.int .i32 imm) := by rw [hw1]; go_cell
  have HW1 := Lib.hid hw1
  clear hw1 h
  have hp := H1.out.ptr
  have hca := H1.out.hart.get (hlist_reg wf.h k1 h1)
  have hcb := H1.out.hart.get (hlist_reg wf.h k2 h2)
  have hc32 := H1.out.hart.get (hlist_pc wf.h)
  rw [← hxa] at hca
  rw [← hxb] at hcb
  rw [← hpc] at hc32
  have HPC := Lib.hid hpc
  have HIM := Lib.hid hxn
  clear hxa hxb era erb hpc ua ub un up hxn
  obtain ⟨b1, b2⟩ := HU.out
  have j1 : (k1 : Int) < 32 := by omega
  have j2 : (k2 : Int) < 32 := by omega
  go_enter Try.func117, Try.ntmps117
  go_upto_region 1 with (fail)
  rw [← HW1.out]
  go_quiet (fail)
  rw [← HIM.out]
  clear hca hcb
  obtain ⟨n0, n1⟩ := HN.out
  go_upto_region 15 with (fail)
  go_upto_region 37 with (go_at_call 18; refine (HH.out _).mono ?_; rintro e w2 ⟨rfl, rfl⟩)
  have h32 := hc32
  have f32 := H1.out.hfz (ho + 32)
  clear q0 q1 q2 q3 q4 hc32
  go_wp2_with fail
  go_end0
  exact ⟨rfl, (H1.out.drewN _).setHart 32 _ _ (hlist_setPc wf.h.len _) (by rw [hlist_length wf.h]; omega), (G1.out.drewN _).trans (Cgo.setHart _ 32 (by omega) _)⟩
set_option maxRecDepth 100000 in
set_option maxHeartbeats 800000 in
theorem do_branch_false (h : CoreAt cp hb ho vm 34 w d) (wf : d.Wf) (hlen : d.out.length < 1099511627776) (op : Int) (kd k1 k2 : Nat) (imm : Int) (hop : 5 ≤ op ∧ op ≤ 10) (hd : kd < 32) (h1 : k1 < 32) (h2 : k2 < 32) (hq : holds op (d.h.reg k1) (d.h.reg k2) = false) (hi : -2147483648 ≤ imm ∧ imm ≤ 2147483647) :
    Calls Try.prog 117 #[.pointer (some ⟨cp, 0, none⟩), .agg #[.int .i64 op, .int .i64 kd, .int .i64 k1, .int .i64 k2, .int .i32 imm]] w fun e w' => e = .returned (.tuple #[]) ∧ CoreAt cp hb ho vm 34 w' (doS ⟨op, kd, k1, k2, imm⟩ d) ∧ Cgo cp hb ho vm 34 w w' := by
  obtain ⟨o0, o1⟩ := hop
  have f1 : (op == 1) = false := beq_eq_false_iff_ne.2 (by omega)
  have f2 : (op == 2) = false := beq_eq_false_iff_ne.2 (by omega)
  have f3 : (op == 3) = false := beq_eq_false_iff_ne.2 (by omega)
  have f4 : (op == 4) = false := beq_eq_false_iff_ne.2 (by omega)
  obtain ⟨i0, i1⟩ := hi
  obtain ⟨xa, hxa⟩ : ∃ x, x = d.h.regs.getD k1 0 := ⟨_, rfl⟩
  obtain ⟨xb, hxb⟩ : ∃ x, x = d.h.regs.getD k2 0 := ⟨_, rfl⟩
  obtain ⟨xn, hxn⟩ : ∃ x, x = imm % 4294967296 := ⟨_, rfl⟩
  obtain ⟨pc, hpc⟩ : ∃ x, x = d.h.pc := ⟨_, rfl⟩
  have era : d.h.reg (k1 : Int) = xa := by rw [hxa]; rfl
  have erb : d.h.reg (k2 : Int) = xb := by rw [hxb]; rfl
  rw [era, erb] at hq
  have ua : U32 xa := by rw [← era]; exact reg_u wf.h _
  have ub : U32 xb := by rw [← erb]; exact reg_u wf.h _
  have un : U32 xn := by rw [hxn]; exact mod_lo _
  have up : U32 pc := by rw [hpc]; exact wf.h.pc
  have e : doS ⟨op, kd, k1, k2, imm⟩ d = d.setPc (if holds op xa xb = true then (pc + xn) % 4294967296 else (pc + 4) % 4294967296) := by
    unfold doS
    dsimp only
    rw [era, erb, ← hxn, ← hpc]
    rw [if_neg (by omega), if_neg (by omega), if_neg (by omega), if_neg (by omega), if_pos (by omega)]
  rw [e]
  clear e
  have HH := Lib.hid (fun W => holds_any op xa xb W ua.1 ua.2 ub.1 ub.2)
  rw [show holds op xa xb = false from hq] at HH
  rw [show holds op xa xb = false from hq, if_neg (by decide)]
  have hne := h.hbl
  have HA := Lib.hid ua
  have HB := Lib.hid ub
  have HN := Lib.hid un
  have HU := Lib.hid up
  obtain ⟨w1, hw1⟩ : ∃ w1, w1 = w.alloc (.cells #[.int .i64 op, .int .i64 kd, .int .i64 k1, .int .i64 k2, .int .i32 imm] 38) := ⟨_, rfl⟩
  have H1 : Hid (CoreAt cp hb ho vm 34 w1 d) := Lib.hid (by rw [hw1]; exact h.below (Below.alloc (Below.refl _ _) (Nat.le_refl _) _))
  have G1 : Hid (Cgo cp hb ho vm 34 w w1) := Lib.hid (by rw [hw1]; exact Cgo.of_below (Below.alloc (Below.refl _ _) (Nat.le_refl _) _) h.hlt)
  have hbx : cp < w.heap.size := h.lt
  have HX : Hid (w1.heap[w.heap.size]? = some (.cells #[.int .i64 op, .int .i64 kd, .int .i64 k1, .int .i64 k2, .int .i32 imm] 38 (0, 0))) := Lib.hid (by rw [hw1]; exact heap_alloc_new _ _)
  have q0 : (w1).cell? ⟨w.heap.size, 0, none⟩ = some (.int .i64 op) := by rw [hw1]; go_cell
  have q1 : (w1).cell? ⟨w.heap.size, 1, none⟩ = some (.int .i64 kd) := by rw [hw1]; go_cell
  have q2 : (w1).cell? ⟨w.heap.size, 2, none⟩ = some (.int .i64 k1) := by rw [hw1]; go_cell
  have q3 : (w1).cell? ⟨w.heap.size, 3, none⟩ = some (.int .i64 k2) := by rw [hw1]; go_cell
  have q4 : (w1).cell? ⟨w.heap.size, 4, none⟩ = some (.int .i32 imm) := by rw [hw1]; go_cell
  have HW1 := Lib.hid hw1
  clear hw1 h
  have hp := H1.out.ptr
  have hca := H1.out.hart.get (hlist_reg wf.h k1 h1)
  have hcb := H1.out.hart.get (hlist_reg wf.h k2 h2)
  have hc32 := H1.out.hart.get (hlist_pc wf.h)
  rw [← hxa] at hca
  rw [← hxb] at hcb
  rw [← hpc] at hc32
  have HPC := Lib.hid hpc
  have HIM := Lib.hid hxn
  clear hxa hxb era erb hpc ua ub un up hxn
  obtain ⟨b1, b2⟩ := HU.out
  have j1 : (k1 : Int) < 32 := by omega
  have j2 : (k2 : Int) < 32 := by omega
  go_enter Try.func117, Try.ntmps117
  go_upto_region 1 with (fail)
  rw [← HW1.out]
  go_quiet (fail)
  rw [← HIM.out]
  clear hca hcb
  obtain ⟨n0, n1⟩ := HN.out
  go_upto_region 15 with (fail)
  go_upto_region 37 with (go_at_call 18; refine (HH.out _).mono ?_; rintro e w2 ⟨rfl, rfl⟩)
  have h32 := hc32
  have f32 := H1.out.hfz (ho + 32)
  clear q0 q1 q2 q3 q4 hc32
  go_wp2_with fail
  go_end0
  exact ⟨rfl, (H1.out.drewN _).setHart 32 _ _ (hlist_setPc wf.h.len _) (by rw [hlist_length wf.h]; omega), (G1.out.drewN _).trans (Cgo.setHart _ 32 (by omega) _)⟩
end
end Go.Proofs.Ytlfnddmncbkjaab.W

/- hart.Core.Do, walked: loads. -/
namespace Go.Proofs.Ytlfnddmncbkjaab.W
set_option linter.unusedVariables false
set_option linter.unusedSimpArgs false
open Go.RowKit Fb
section
variable {cp hb ho : Nat} {vm : Value} {d : CoreD} {w : World}
set_option maxRecDepth 100000 in
set_option maxHeartbeats 800000 in
theorem do_load_no (h : CoreAt cp hb ho vm 34 w d) (wf : d.Wf) (hlen : d.out.length < 1099511627776) (op : Int) (kd k1 k2 : Nat) (imm : Int) (hop : 11 ≤ op ∧ op ≤ 15) (hd : kd < 32) (h1 : k1 < 32) (h2 : k2 < 32) (hq : mLoadOk d.m op ((d.h.reg k1 + imm % 4294967296) % 4294967296) = false) (hi : -2147483648 ≤ imm ∧ imm ≤ 2147483647) :
    Calls Try.prog 117 #[.pointer (some ⟨cp, 0, none⟩), .agg #[.int .i64 op, .int .i64 kd, .int .i64 k1, .int .i64 k2, .int .i32 imm]] w fun e w' => e = .returned (.tuple #[]) ∧ CoreAt cp hb ho vm 34 w' (doS ⟨op, kd, k1, k2, imm⟩ d) ∧ Cgo cp hb ho vm 34 w w' := by
  obtain ⟨o0, o1⟩ := hop
  have f1 : (op == 1) = false := beq_eq_false_iff_ne.2 (by omega)
  have f2 : (op == 2) = false := beq_eq_false_iff_ne.2 (by omega)
  have f3 : (op == 3) = false := beq_eq_false_iff_ne.2 (by omega)
  have f4 : (op == 4) = false := beq_eq_false_iff_ne.2 (by omega)
  obtain ⟨i0, i1⟩ := hi
  obtain ⟨xa, hxa⟩ : ∃ x, x = d.h.regs.getD k1 0 := ⟨_, rfl⟩
  obtain ⟨xb, hxb⟩ : ∃ x, x = d.h.regs.getD k2 0 := ⟨_, rfl⟩
  obtain ⟨xn, hxn⟩ : ∃ x, x = imm % 4294967296 := ⟨_, rfl⟩
  obtain ⟨pc, hpc⟩ : ∃ x, x = d.h.pc := ⟨_, rfl⟩
  have era : d.h.reg (k1 : Int) = xa := by rw [hxa]; rfl
  have erb : d.h.reg (k2 : Int) = xb := by rw [hxb]; rfl
  rw [era, ← hxn] at hq
  have ua : U32 xa := by rw [← era]; exact reg_u wf.h _
  have ub : U32 xb := by rw [← erb]; exact reg_u wf.h _
  have un : U32 xn := by rw [hxn]; exact mod_lo _
  have up : U32 pc := by rw [hpc]; exact wf.h.pc
  have e : doS ⟨op, kd, k1, k2, imm⟩ d = d.trap 3 := by
    unfold doS
    dsimp only
    rw [era, erb, ← hxn, ← hpc]
    rw [if_neg (by omega), if_neg (by omega), if_neg (by omega), if_neg (by omega), if_neg (by omega), if_pos (by omega), if_neg (by rw [hq]; decide)]
  rw [e]
  clear e
  have HL := Lib.hid (fun W hW => load_any vm d.m op ((xa + xn) % 4294967296) W hW (mod_lo _) wf.m.getD)
  rw [hq] at HL
  have hne := h.hbl
  have HA := Lib.hid ua
  have HB := Lib.hid ub
  have HN := Lib.hid un
  have HU := Lib.hid up
  obtain ⟨w1, hw1⟩ : ∃ w1, w1 = w.alloc (.cells #[.int .i64 op, .int .i64 kd, .int .i64 k1, .int .i64 k2, .int .i32 imm] 38) := ⟨_, rfl⟩
  have H1 : Hid (CoreAt cp hb ho vm 34 w1 d) := Lib.hid (by rw [hw1]; exact h.below (Below.alloc (Below.refl _ _) (Nat.le_refl _) _))
  have G1 : Hid (Cgo cp hb ho vm 34 w w1) := Lib.hid (by rw [hw1]; exact Cgo.of_below (Below.alloc (Below.refl _ _) (Nat.le_refl _) _) h.hlt)
  have hbx : cp < w.heap.size := h.lt
  have HX : Hid (w1.heap[w.heap.size]? = some (.cells #[.int .i64 op, .int .i64 kd, .int .i64 k1, .int .i64 k2, .int .i32 imm] 38 (0, 0))) := Lib.hid (by rw [hw1]; exact heap_alloc_new _ _)
  have q0 : (w1).cell? ⟨w.heap.size, 0, none⟩ = some (.int .i64 op) := by rw [hw1]; go_cell
  have q1 : (w1).cell? ⟨w.heap.size, 1, none⟩ = some (.int .i64 kd) := by rw [hw1]; go_cell
  have q2 : (w1).cell? ⟨w.heap.size, 2, none⟩ = some (.int .i64 k1) := by rw [hw1]; go_cell
  have q3 : (w1).cell? ⟨w.heap.size, 3, none⟩ = some (.int .i64 k2) := by rw [hw1]; go_cell
  have q4 : (w1).cell? ⟨w.heap.size, 4, none⟩ = some (.int .i32 imm) := by rw [hw1]; go_cell
  have HW1 := Lib.hid hw1
  clear hw1 h
  have hp := H1.out.ptr
  have hca := H1.out.hart.get (hlist_reg wf.h k1 h1)
  have hcb := H1.out.hart.get (hlist_reg wf.h k2 h2)
  have hc32 := H1.out.hart.get (hlist_pc wf.h)
  rw [← hxa] at hca
  rw [← hxb] at hcb
  rw [← hpc] at hc32
  have HPC := Lib.hid hpc
  have HIM := Lib.hid hxn
  clear hxa hxb era erb hpc ua ub un up hxn
  obtain ⟨b1, b2⟩ := HU.out
  have j1 : (k1 : Int) < 32 := by omega
  have j2 : (k2 : Int) < 32 := by omega
  go_enter Try.func117, Try.ntmps117
  go_upto_region 1 with (fail)
  rw [← HW1.out]
  go_quiet (fail)
  rw [← HIM.out]
  clear hca hcb
  obtain ⟨n0, n1⟩ := HN.out
  obtain ⟨a0, a1⟩ := HA.out
  have hm := H1.out.mem
  go_upto_region 18 with (fail)
  go_upto_region 20 with (go_at_call 101; refine (HL.out _ (H1.out.drewN _).bytes).mono ?_; rintro e w2 ⟨rfl, rfl⟩)
  clear hm q0 q1 q2 q3 q4
  clear hp hc32
  go_wp2_with (go_at_call 116; refine (trap_any (H1.out.drewN _) wf.h _).mono ?_; rintro e w2 ⟨rfl, hc, hg⟩)
  exact bodyPost_ret (results_none (by rfl) _ _ _) rfl ⟨rfl, hc, (G1.out.drewN _).trans hg⟩
set_option maxRecDepth 100000 in
set_option maxHeartbeats 800000 in
theorem do_load_yes (h : CoreAt cp hb ho vm 34 w d) (wf : d.Wf) (hlen : d.out.length < 1099511627776) (op : Int) (kd k1 k2 : Nat) (imm : Int) (hop : 11 ≤ op ∧ op ≤ 15) (hd : kd < 32) (h1 : k1 < 32) (h2 : k2 < 32) (hq : mLoadOk d.m op ((d.h.reg k1 + imm % 4294967296) % 4294967296) = true) (hi : -2147483648 ≤ imm ∧ imm ≤ 2147483647) :
    Calls Try.prog 117 #[.pointer (some ⟨cp, 0, none⟩), .agg #[.int .i64 op, .int .i64 kd, .int .i64 k1, .int .i64 k2, .int .i32 imm]] w fun e w' => e = .returned (.tuple #[]) ∧ CoreAt cp hb ho vm 34 w' (doS ⟨op, kd, k1, k2, imm⟩ d) ∧ Cgo cp hb ho vm 34 w w' := by
  obtain ⟨o0, o1⟩ := hop
  have f1 : (op == 1) = false := beq_eq_false_iff_ne.2 (by omega)
  have f2 : (op == 2) = false := beq_eq_false_iff_ne.2 (by omega)
  have f3 : (op == 3) = false := beq_eq_false_iff_ne.2 (by omega)
  have f4 : (op == 4) = false := beq_eq_false_iff_ne.2 (by omega)
  obtain ⟨i0, i1⟩ := hi
  obtain ⟨xa, hxa⟩ : ∃ x, x = d.h.regs.getD k1 0 := ⟨_, rfl⟩
  obtain ⟨xb, hxb⟩ : ∃ x, x = d.h.regs.getD k2 0 := ⟨_, rfl⟩
  obtain ⟨xn, hxn⟩ : ∃ x, x = imm % 4294967296 := ⟨_, rfl⟩
  obtain ⟨pc, hpc⟩ : ∃ x, x = d.h.pc := ⟨_, rfl⟩
  have era : d.h.reg (k1 : Int) = xa := by rw [hxa]; rfl
  have erb : d.h.reg (k2 : Int) = xb := by rw [hxb]; rfl
  rw [era, ← hxn] at hq
  have ua : U32 xa := by rw [← era]; exact reg_u wf.h _
  have ub : U32 xb := by rw [← erb]; exact reg_u wf.h _
  have un : U32 xn := by rw [hxn]; exact mod_lo _
  have up : U32 pc := by rw [hpc]; exact wf.h.pc
  have e : doS ⟨op, kd, k1, k2, imm⟩ d = (d.set kd (mLoad d.m op ((xa + xn) % 4294967296))).setPc ((pc + 4) % 4294967296) := by
    unfold doS
    dsimp only
    rw [era, erb, ← hxn, ← hpc]
    rw [if_neg (by omega), if_neg (by omega), if_neg (by omega), if_neg (by omega), if_neg (by omega), if_pos (by omega), if_pos hq]
  rw [e]
  clear e
  have HL := Lib.hid (fun W hW => load_any vm d.m op ((xa + xn) % 4294967296) W hW (mod_lo _) wf.m.getD)
  rw [hq] at HL
  have HLU := Lib.hid (mLoad_u d.m op ((xa + xn) % 4294967296) ⟨o0, o1⟩ (mod_lo _) wf.m.getD)
  obtain ⟨xl, hxl⟩ : ∃ x, x = mLoad d.m op ((xa + xn) % 4294967296) := ⟨_, rfl⟩
  rw [← hxl] at HLU ⊢
  have HL2 : Hid (∀ W, Ints .u8 W vm d.m → Calls Try.prog 101 #[vm, .int .i64 op, .int .u32 ((xa + xn) % 4294967296)] W fun e w' => e = .returned (.tuple #[.int .u32 xl, .bool true]) ∧ W = w') := Lib.hid (by rw [hxl]; exact HL.out)
  clear hxl HL
  have HL := HL2
  clear HL2
  have hne := h.hbl
  have HA := Lib.hid ua
  have HB := Lib.hid ub
  have HN := Lib.hid un
  have HU := Lib.hid up
  obtain ⟨w1, hw1⟩ : ∃ w1, w1 = w.alloc (.cells #[.int .i64 op, .int .i64 kd, .int .i64 k1, .int .i64 k2, .int .i32 imm] 38) := ⟨_, rfl⟩
  have H1 : Hid (CoreAt cp hb ho vm 34 w1 d) := Lib.hid (by rw [hw1]; exact h.below (Below.alloc (Below.refl _ _) (Nat.le_refl _) _))
  have G1 : Hid (Cgo cp hb ho vm 34 w w1) := Lib.hid (by rw [hw1]; exact Cgo.of_below (Below.alloc (Below.refl _ _) (Nat.le_refl _) _) h.hlt)
  have hbx : cp < w.heap.size := h.lt
  have HX : Hid (w1.heap[w.heap.size]? = some (.cells #[.int .i64 op, .int .i64 kd, .int .i64 k1, .int .i64 k2, .int .i32 imm] 38 (0, 0))) := Lib.hid (by rw [hw1]; exact heap_alloc_new _ _)
  have q0 : (w1).cell? ⟨w.heap.size, 0, none⟩ = some (.int .i64 op) := by rw [hw1]; go_cell
  have q1 : (w1).cell? ⟨w.heap.size, 1, none⟩ = some (.int .i64 kd) := by rw [hw1]; go_cell
  have q2 : (w1).cell? ⟨w.heap.size, 2, none⟩ = some (.int .i64 k1) := by rw [hw1]; go_cell
  have q3 : (w1).cell? ⟨w.heap.size, 3, none⟩ = some (.int .i64 k2) := by rw [hw1]; go_cell
  have q4 : (w1).cell? ⟨w.heap.size, 4, none⟩ = some (.int .i32 imm) := by rw [hw1]; go_cell
  have HW1 := Lib.hid hw1
  clear hw1 h
  have hp := H1.out.ptr
  have hca := H1.out.hart.get (hlist_reg wf.h k1 h1)
  have hcb := H1.out.hart.get (hlist_reg wf.h k2 h2)
  have hc32 := H1.out.hart.get (hlist_pc wf.h)
  rw [← hxa] at hca
  rw [← hxb] at hcb
  rw [← hpc] at hc32
  have HPC := Lib.hid hpc
  have HIM := Lib.hid hxn
  clear hxa hxb era erb hpc ua ub un up hxn
  obtain ⟨b1, b2⟩ := HU.out
  have j1 : (k1 : Int) < 32 := by omega
  have j2 : (k2 : Int) < 32 := by omega
  go_enter Try.func117, Try.ntmps117
  go_upto_region 1 with (fail)
  rw [← HW1.out]
  go_quiet (fail)
  rw [← HIM.out]
  clear hca hcb
  obtain ⟨n0, n1⟩ := HN.out
  obtain ⟨a0, a1⟩ := HA.out
  have hm := H1.out.mem
  go_upto_region 18 with (fail)
  go_upto_region 21 with (go_at_call 101; refine (HL.out _ (H1.out.drewN _).bytes).mono ?_; rintro e w2 ⟨rfl, rfl⟩)
  clear hm
  go_upto_region 37 with (go_at_call 128; refine (set_any (H1.out.drewN _) wf.h kd hd _).mono ?_; rintro e w2 ⟨rfl, hc, hg⟩)
  have HG : Hid (Cgo cp hb ho vm 34 w w2) := Lib.hid (((G1.out.drewN _)).trans hg)
  have wf2 := (wf.set kd xl HLU.out).h
  clear hg q0 q1 q2 q3 q4
  clear hp hc32
  have hp := hc.ptr
  have h32 := hc.hart.get (hlist_pc wf2)
  have f32 := hc.hfz (ho + 32)
  have HC := Lib.hid hc
  clear hc
  go_wp2_with fail
  go_end0
  exact ⟨rfl, HC.out.setHart 32 _ _ (hlist_setPc wf2.len _) (by rw [hlist_length wf2]; omega), HG.out.trans (Cgo.setHart _ 32 (by omega) _)⟩
end
end Go.Proofs.Ytlfnddmncbkjaab.W
