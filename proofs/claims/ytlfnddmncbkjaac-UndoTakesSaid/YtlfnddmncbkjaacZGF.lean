import Derived.Test.YtlfnddmncbkjaacZGE
import Derived.Deep.RegionHeld3
set_option linter.unusedVariables false
set_option linter.unusedSimpArgs false
set_option maxRecDepth 100000
set_option maxHeartbeats 4000000
namespace Go.Proofs.Ytlfnddmncbkjaac.W
open Go.RowKit Fb
section
variable {cp hb ho : Nat} {vm : Value} {d : CoreD} {w : World}
theorem do_branch_true (h : CoreAt cp hb ho vm 58 w d) (wf : d.Wf) (hlen : d.out.length < 1099511627776) (op : Int) (kd k1 k2 : Nat) (imm : Int) (hop : 5 ≤ op ∧ op ≤ 10) (hd : kd < 32) (h1 : k1 < 32) (h2 : k2 < 32) (hq : holds op (d.h.reg k1) (d.h.reg k2) = true) (hi : -2147483648 ≤ imm ∧ imm ≤ 2147483647) :
    Calls Try.prog 48 #[.pointer (some ⟨cp, 0, none⟩), .agg #[.int .i64 op, .int .i64 kd, .int .i64 k1, .int .i64 k2, .int .i32 imm]] w fun e w' => e = .returned (.tuple #[]) ∧ CoreAt cp hb ho vm 58 w' (doS ⟨op, kd, k1, k2, imm⟩ d) ∧ Cgo cp hb ho vm 58 w w' := by
  obtain ⟨o0, o1⟩ := hop
  have f1 : (op == 1) = false := beq_eq_false_iff_ne.2 om
  have f2 : (op == 2) = false := beq_eq_false_iff_ne.2 om
  have f3 : (op == 3) = false := beq_eq_false_iff_ne.2 om
  have f4 : (op == 4) = false := beq_eq_false_iff_ne.2 om
  obtain ⟨i0, i1⟩ := hi
  obtain ⟨xa, hxa⟩ : ∃ x, x = d.h.regs.getD k1 0 := ⟨_, rfl⟩
  obtain ⟨xb, hxb⟩ : ∃ x, x = d.h.regs.getD k2 0 := ⟨_, rfl⟩
  obtain ⟨xn, hxn⟩ : ∃ x, x = imm % 4294967296 := ⟨_, rfl⟩
  obtain ⟨pc, hpc⟩ : ∃ x, x = d.h.pc := ⟨_, rfl⟩
  have era : d.h.reg (k1 : Int) = xa := by rw [hxa]; rfl
  have erb : d.h.reg (k2 : Int) = xb := by rw [hxb]; rfl
  rw [era, erb] at hq
  have ua : U32 xa := by rw [← era]; exact reg_u wf.h _
  have ub : U32 xb := by rw [← erb]; exact reg_u wf.h _
  have un : U32 xn := by rw [hxn]; exact mod_lo _
  have up : U32 pc := by rw [hpc]; exact wf.h.pc
  have e : doS ⟨op, kd, k1, k2, imm⟩ d = d.setPc (if holds op xa xb = true then (pc + xn) % 4294967296 else (pc + 4) % 4294967296) := by
    unfold doS
    dsimp only
    rw [era, erb, ← hxn, ← hpc]
    rw [if_neg om, if_neg om, if_neg om, if_neg om, if_pos om]
  rw [e]
  clear e
  have HH := lI (fun W => holds_any op xa xb W ua.1 ua.2 ub.1 ub.2)
  rw [show holds op xa xb = true from hq] at HH
  rw [show holds op xa xb = true from hq, if_pos rfl]
  have hne := h.hbl
  have HA := lI ua
  have HB := lI ub
  have HN := lI un
  have HU := lI up
  obtain ⟨w1, hw1⟩ : ∃ w1, w1 = w.alloc (.cells #[.int .i64 op, .int .i64 kd, .int .i64 k1, .int .i64 k2, .int .i32 imm] 110) := ⟨_, rfl⟩
  have H1 : Hid (CoreAt cp hb ho vm 58 w1 d) := lI zC
  have G1 : Hid (Cgo cp hb ho vm 58 w w1) := lI zB
  have hbx : cp < w.heap.size := h.lt
  have HX : Hid (w1.heap[w.heap.size]? = some (.cells #[.int .i64 op, .int .i64 kd, .int .i64 k1, .int .i64 k2, .int .i32 imm] 110 (0, 0))) := lI zJ
  have q0 : (w1).cell? ⟨w.heap.size, 0, none⟩ = some (.int .i64 op) := by rw [hw1]; go_cell
  have q1 : (w1).cell? ⟨w.heap.size, 1, none⟩ = some (.int .i64 kd) := by rw [hw1]; go_cell
  have q2 : (w1).cell? ⟨w.heap.size, 2, none⟩ = some (.int .i64 k1) := by rw [hw1]; go_cell
  have q3 : (w1).cell? ⟨w.heap.size, 3, none⟩ = some (.int .i64 k2) := by rw [hw1]; go_cell
  have q4 : (w1).cell? ⟨w.heap.size, 4, none⟩ = some (.int .i32 imm) := by rw [hw1]; go_cell
  have HW1 := lI hw1
  clear hw1 h
  have hp := H1.out.ptr
  have hca := H1.out.hart.get (hlist_reg wf.h k1 h1)
  have hcb := H1.out.hart.get (hlist_reg wf.h k2 h2)
  have hc32 := H1.out.hart.get (hlist_pc wf.h)
  rw [← hxa] at hca
  rw [← hxb] at hcb
  rw [← hpc] at hc32
  have HPC := lI hpc
  have HIM := lI hxn
  clear hxa hxb era erb hpc ua ub un up hxn
  obtain ⟨b1, b2⟩ := HU.out
  have j1 : (k1 : Int) < 32 := om
  have j2 : (k2 : Int) < 32 := om
  go_enter Try.func48, Try.ntmps48
  go_upto_region 1 with (fail)
  rw [← HW1.out]
  go_quiet (fail)
  rw [← HIM.out]
  clear hca hcb
  obtain ⟨n0, n1⟩ := HN.out
  go_upto_region 15 with (fail)
  go_upto_region 37 with (go_at_call 71; refine (HH.out _).mono ?_; rintro e w2 ⟨rfl, rfl⟩)
  have h32 := hc32
  have f32 := H1.out.hfz (ho + 32)
  clear q0 q1 q2 q3 q4 hc32
  go_wp2_with fail
  go_end0
  exact ⟨rfl, (H1.out.drewN _).setHart 32 _ _ (hlist_setPc wf.h.len _) yF, (G1.out.drewN _).trans (Cgo.setHart _ 32 om _)⟩
theorem do_branch_false (h : CoreAt cp hb ho vm 58 w d) (wf : d.Wf) (hlen : d.out.length < 1099511627776) (op : Int) (kd k1 k2 : Nat) (imm : Int) (hop : 5 ≤ op ∧ op ≤ 10) (hd : kd < 32) (h1 : k1 < 32) (h2 : k2 < 32) (hq : holds op (d.h.reg k1) (d.h.reg k2) = false) (hi : -2147483648 ≤ imm ∧ imm ≤ 2147483647) :
    Calls Try.prog 48 #[.pointer (some ⟨cp, 0, none⟩), .agg #[.int .i64 op, .int .i64 kd, .int .i64 k1, .int .i64 k2, .int .i32 imm]] w fun e w' => e = .returned (.tuple #[]) ∧ CoreAt cp hb ho vm 58 w' (doS ⟨op, kd, k1, k2, imm⟩ d) ∧ Cgo cp hb ho vm 58 w w' := by
  obtain ⟨o0, o1⟩ := hop
  have f1 : (op == 1) = false := beq_eq_false_iff_ne.2 om
  have f2 : (op == 2) = false := beq_eq_false_iff_ne.2 om
  have f3 : (op == 3) = false := beq_eq_false_iff_ne.2 om
  have f4 : (op == 4) = false := beq_eq_false_iff_ne.2 om
  obtain ⟨i0, i1⟩ := hi
  obtain ⟨xa, hxa⟩ : ∃ x, x = d.h.regs.getD k1 0 := ⟨_, rfl⟩
  obtain ⟨xb, hxb⟩ : ∃ x, x = d.h.regs.getD k2 0 := ⟨_, rfl⟩
  obtain ⟨xn, hxn⟩ : ∃ x, x = imm % 4294967296 := ⟨_, rfl⟩
  obtain ⟨pc, hpc⟩ : ∃ x, x = d.h.pc := ⟨_, rfl⟩
  have era : d.h.reg (k1 : Int) = xa := by rw [hxa]; rfl
  have erb : d.h.reg (k2 : Int) = xb := by rw [hxb]; rfl
  rw [era, erb] at hq
  have ua : U32 xa := by rw [← era]; exact reg_u wf.h _
  have ub : U32 xb := by rw [← erb]; exact reg_u wf.h _
  have un : U32 xn := by rw [hxn]; exact mod_lo _
  have up : U32 pc := by rw [hpc]; exact wf.h.pc
  have e : doS ⟨op, kd, k1, k2, imm⟩ d = d.setPc (if holds op xa xb = true then (pc + xn) % 4294967296 else (pc + 4) % 4294967296) := by
    unfold doS
    dsimp only
    rw [era, erb, ← hxn, ← hpc]
    rw [if_neg om, if_neg om, if_neg om, if_neg om, if_pos om]
  rw [e]
  clear e
  have HH := lI (fun W => holds_any op xa xb W ua.1 ua.2 ub.1 ub.2)
  rw [show holds op xa xb = false from hq] at HH
  rw [show holds op xa xb = false from hq, if_neg zN]
  have hne := h.hbl
  have HA := lI ua
  have HB := lI ub
  have HN := lI un
  have HU := lI up
  obtain ⟨w1, hw1⟩ : ∃ w1, w1 = w.alloc (.cells #[.int .i64 op, .int .i64 kd, .int .i64 k1, .int .i64 k2, .int .i32 imm] 110) := ⟨_, rfl⟩
  have H1 : Hid (CoreAt cp hb ho vm 58 w1 d) := lI zC
  have G1 : Hid (Cgo cp hb ho vm 58 w w1) := lI zB
  have hbx : cp < w.heap.size := h.lt
  have HX : Hid (w1.heap[w.heap.size]? = some (.cells #[.int .i64 op, .int .i64 kd, .int .i64 k1, .int .i64 k2, .int .i32 imm] 110 (0, 0))) := lI zJ
  have q0 : (w1).cell? ⟨w.heap.size, 0, none⟩ = some (.int .i64 op) := by rw [hw1]; go_cell
  have q1 : (w1).cell? ⟨w.heap.size, 1, none⟩ = some (.int .i64 kd) := by rw [hw1]; go_cell
  have q2 : (w1).cell? ⟨w.heap.size, 2, none⟩ = some (.int .i64 k1) := by rw [hw1]; go_cell
  have q3 : (w1).cell? ⟨w.heap.size, 3, none⟩ = some (.int .i64 k2) := by rw [hw1]; go_cell
  have q4 : (w1).cell? ⟨w.heap.size, 4, none⟩ = some (.int .i32 imm) := by rw [hw1]; go_cell
  have HW1 := lI hw1
  clear hw1 h
  have hp := H1.out.ptr
  have hca := H1.out.hart.get (hlist_reg wf.h k1 h1)
  have hcb := H1.out.hart.get (hlist_reg wf.h k2 h2)
  have hc32 := H1.out.hart.get (hlist_pc wf.h)
  rw [← hxa] at hca
  rw [← hxb] at hcb
  rw [← hpc] at hc32
  have HPC := lI hpc
  have HIM := lI hxn
  clear hxa hxb era erb hpc ua ub un up hxn
  obtain ⟨b1, b2⟩ := HU.out
  have j1 : (k1 : Int) < 32 := om
  have j2 : (k2 : Int) < 32 := om
  go_enter Try.func48, Try.ntmps48
  go_upto_region 1 with (fail)
  rw [← HW1.out]
  go_quiet (fail)
  rw [← HIM.out]
  clear hca hcb
  obtain ⟨n0, n1⟩ := HN.out
  go_upto_region 15 with (fail)
  go_upto_region 37 with (go_at_call 71; refine (HH.out _).mono ?_; rintro e w2 ⟨rfl, rfl⟩)
  have h32 := hc32
  have f32 := H1.out.hfz (ho + 32)
  clear q0 q1 q2 q3 q4 hc32
  go_wp2_with fail
  go_end0
  exact ⟨rfl, (H1.out.drewN _).setHart 32 _ _ (hlist_setPc wf.h.len _) yF, (G1.out.drewN _).trans (Cgo.setHart _ 32 om _)⟩
end
section
variable {cp hb ho : Nat} {vm : Value} {d : CoreD} {w : World}
theorem do_load_no (h : CoreAt cp hb ho vm 58 w d) (wf : d.Wf) (hlen : d.out.length < 1099511627776) (op : Int) (kd k1 k2 : Nat) (imm : Int) (hop : 11 ≤ op ∧ op ≤ 15) (hd : kd < 32) (h1 : k1 < 32) (h2 : k2 < 32) (hq : mLoadOk d.m op ((d.h.reg k1 + imm % 4294967296) % 4294967296) = false) (hi : -2147483648 ≤ imm ∧ imm ≤ 2147483647) :
    Calls Try.prog 48 #[.pointer (some ⟨cp, 0, none⟩), .agg #[.int .i64 op, .int .i64 kd, .int .i64 k1, .int .i64 k2, .int .i32 imm]] w fun e w' => e = .returned (.tuple #[]) ∧ CoreAt cp hb ho vm 58 w' (doS ⟨op, kd, k1, k2, imm⟩ d) ∧ Cgo cp hb ho vm 58 w w' := by
  obtain ⟨o0, o1⟩ := hop
  have f1 : (op == 1) = false := beq_eq_false_iff_ne.2 om
  have f2 : (op == 2) = false := beq_eq_false_iff_ne.2 om
  have f3 : (op == 3) = false := beq_eq_false_iff_ne.2 om
  have f4 : (op == 4) = false := beq_eq_false_iff_ne.2 om
  obtain ⟨i0, i1⟩ := hi
  obtain ⟨xa, hxa⟩ : ∃ x, x = d.h.regs.getD k1 0 := ⟨_, rfl⟩
  obtain ⟨xb, hxb⟩ : ∃ x, x = d.h.regs.getD k2 0 := ⟨_, rfl⟩
  obtain ⟨xn, hxn⟩ : ∃ x, x = imm % 4294967296 := ⟨_, rfl⟩
  obtain ⟨pc, hpc⟩ : ∃ x, x = d.h.pc := ⟨_, rfl⟩
  have era : d.h.reg (k1 : Int) = xa := by rw [hxa]; rfl
  have erb : d.h.reg (k2 : Int) = xb := by rw [hxb]; rfl
  rw [era, ← hxn] at hq
  have ua : U32 xa := by rw [← era]; exact reg_u wf.h _
  have ub : U32 xb := by rw [← erb]; exact reg_u wf.h _
  have un : U32 xn := by rw [hxn]; exact mod_lo _
  have up : U32 pc := by rw [hpc]; exact wf.h.pc
  have e : doS ⟨op, kd, k1, k2, imm⟩ d = d.trap 3 := by
    unfold doS
    dsimp only
    rw [era, erb, ← hxn, ← hpc]
    rw [if_neg om, if_neg om, if_neg om, if_neg om, if_neg om, if_pos om, if_neg yJ]
  rw [e]
  clear e
  have HL := lI (fun W hW => load_any vm d.m op ((xa + xn) % 4294967296) W hW (mod_lo _) wf.m.getD)
  rw [hq] at HL
  have hne := h.hbl
  have HA := lI ua
  have HB := lI ub
  have HN := lI un
  have HU := lI up
  obtain ⟨w1, hw1⟩ : ∃ w1, w1 = w.alloc (.cells #[.int .i64 op, .int .i64 kd, .int .i64 k1, .int .i64 k2, .int .i32 imm] 110) := ⟨_, rfl⟩
  have H1 : Hid (CoreAt cp hb ho vm 58 w1 d) := lI zC
  have G1 : Hid (Cgo cp hb ho vm 58 w w1) := lI zB
  have hbx : cp < w.heap.size := h.lt
  have HX : Hid (w1.heap[w.heap.size]? = some (.cells #[.int .i64 op, .int .i64 kd, .int .i64 k1, .int .i64 k2, .int .i32 imm] 110 (0, 0))) := lI zJ
  have q0 : (w1).cell? ⟨w.heap.size, 0, none⟩ = some (.int .i64 op) := by rw [hw1]; go_cell
  have q1 : (w1).cell? ⟨w.heap.size, 1, none⟩ = some (.int .i64 kd) := by rw [hw1]; go_cell
  have q2 : (w1).cell? ⟨w.heap.size, 2, none⟩ = some (.int .i64 k1) := by rw [hw1]; go_cell
  have q3 : (w1).cell? ⟨w.heap.size, 3, none⟩ = some (.int .i64 k2) := by rw [hw1]; go_cell
  have q4 : (w1).cell? ⟨w.heap.size, 4, none⟩ = some (.int .i32 imm) := by rw [hw1]; go_cell
  have HW1 := lI hw1
  clear hw1 h
  have hp := H1.out.ptr
  have hca := H1.out.hart.get (hlist_reg wf.h k1 h1)
  have hcb := H1.out.hart.get (hlist_reg wf.h k2 h2)
  have hc32 := H1.out.hart.get (hlist_pc wf.h)
  rw [← hxa] at hca
  rw [← hxb] at hcb
  rw [← hpc] at hc32
  have HPC := lI hpc
  have HIM := lI hxn
  clear hxa hxb era erb hpc ua ub un up hxn
  obtain ⟨b1, b2⟩ := HU.out
  have j1 : (k1 : Int) < 32 := om
  have j2 : (k2 : Int) < 32 := om
  go_enter Try.func48, Try.ntmps48
  go_upto_region 1 with (fail)
  rw [← HW1.out]
  go_quiet (fail)
  rw [← HIM.out]
  clear hca hcb
  obtain ⟨n0, n1⟩ := HN.out
  obtain ⟨a0, a1⟩ := HA.out
  have hm := H1.out.mem
  go_upto_region 18 with (fail)
  go_upto_region 20 with (go_at_call 68; refine (HL.out _ (H1.out.drewN _).bytes).mono ?_; rintro e w2 ⟨rfl, rfl⟩)
  clear hm q0 q1 q2 q3 q4
  clear hp hc32
  go_wp2_with (go_at_call 47; refine (trap_any (H1.out.drewN _) wf.h _).mono ?_; rintro e w2 ⟨rfl, hc, hg⟩)
  exact bodyPost_ret (results_none zE _ _ _) rfl ⟨rfl, hc, (G1.out.drewN _).trans hg⟩
theorem do_load_yes (h : CoreAt cp hb ho vm 58 w d) (wf : d.Wf) (hlen : d.out.length < 1099511627776) (op : Int) (kd k1 k2 : Nat) (imm : Int) (hop : 11 ≤ op ∧ op ≤ 15) (hd : kd < 32) (h1 : k1 < 32) (h2 : k2 < 32) (hq : mLoadOk d.m op ((d.h.reg k1 + imm % 4294967296) % 4294967296) = true) (hi : -2147483648 ≤ imm ∧ imm ≤ 2147483647) :
    Calls Try.prog 48 #[.pointer (some ⟨cp, 0, none⟩), .agg #[.int .i64 op, .int .i64 kd, .int .i64 k1, .int .i64 k2, .int .i32 imm]] w fun e w' => e = .returned (.tuple #[]) ∧ CoreAt cp hb ho vm 58 w' (doS ⟨op, kd, k1, k2, imm⟩ d) ∧ Cgo cp hb ho vm 58 w w' := by
  obtain ⟨o0, o1⟩ := hop
  have f1 : (op == 1) = false := beq_eq_false_iff_ne.2 om
  have f2 : (op == 2) = false := beq_eq_false_iff_ne.2 om
  have f3 : (op == 3) = false := beq_eq_false_iff_ne.2 om
  have f4 : (op == 4) = false := beq_eq_false_iff_ne.2 om
  obtain ⟨i0, i1⟩ := hi
  obtain ⟨xa, hxa⟩ : ∃ x, x = d.h.regs.getD k1 0 := ⟨_, rfl⟩
  obtain ⟨xb, hxb⟩ : ∃ x, x = d.h.regs.getD k2 0 := ⟨_, rfl⟩
  obtain ⟨xn, hxn⟩ : ∃ x, x = imm % 4294967296 := ⟨_, rfl⟩
  obtain ⟨pc, hpc⟩ : ∃ x, x = d.h.pc := ⟨_, rfl⟩
  have era : d.h.reg (k1 : Int) = xa := by rw [hxa]; rfl
  have erb : d.h.reg (k2 : Int) = xb := by rw [hxb]; rfl
  rw [era, ← hxn] at hq
  have ua : U32 xa := by rw [← era]; exact reg_u wf.h _
  have ub : U32 xb := by rw [← erb]; exact reg_u wf.h _
  have un : U32 xn := by rw [hxn]; exact mod_lo _
  have up : U32 pc := by rw [hpc]; exact wf.h.pc
  have e : doS ⟨op, kd, k1, k2, imm⟩ d = (d.set kd (mLoad d.m op ((xa + xn) % 4294967296))).setPc ((pc + 4) % 4294967296) := by
    unfold doS
    dsimp only
    rw [era, erb, ← hxn, ← hpc]
    rw [if_neg om, if_neg om, if_neg om, if_neg om, if_neg om, if_pos om, if_pos hq]
  rw [e]
  clear e
  have HL := lI (fun W hW => load_any vm d.m op ((xa + xn) % 4294967296) W hW (mod_lo _) wf.m.getD)
  rw [hq] at HL
  have HLU := lI (mLoad_u d.m op ((xa + xn) % 4294967296) ⟨o0, o1⟩ (mod_lo _) wf.m.getD)
  obtain ⟨xl, hxl⟩ : ∃ x, x = mLoad d.m op ((xa + xn) % 4294967296) := ⟨_, rfl⟩
  rw [← hxl] at HLU ⊢
  have HL2 : Hid (∀ W, Ints .u8 W vm d.m → Calls Try.prog 68 #[vm, .int .i64 op, .int .u32 ((xa + xn) % 4294967296)] W fun e w' => e = .returned (.tuple #[.int .u32 xl, .bool true]) ∧ W = w') := lI (by rw [hxl]; exact HL.out)
  clear hxl HL
  have HL := HL2
  clear HL2
  have hne := h.hbl
  have HA := lI ua
  have HB := lI ub
  have HN := lI un
  have HU := lI up
  obtain ⟨w1, hw1⟩ : ∃ w1, w1 = w.alloc (.cells #[.int .i64 op, .int .i64 kd, .int .i64 k1, .int .i64 k2, .int .i32 imm] 110) := ⟨_, rfl⟩
  have H1 : Hid (CoreAt cp hb ho vm 58 w1 d) := lI zC
  have G1 : Hid (Cgo cp hb ho vm 58 w w1) := lI zB
  have hbx : cp < w.heap.size := h.lt
  have HX : Hid (w1.heap[w.heap.size]? = some (.cells #[.int .i64 op, .int .i64 kd, .int .i64 k1, .int .i64 k2, .int .i32 imm] 110 (0, 0))) := lI zJ
  have q0 : (w1).cell? ⟨w.heap.size, 0, none⟩ = some (.int .i64 op) := by rw [hw1]; go_cell
  have q1 : (w1).cell? ⟨w.heap.size, 1, none⟩ = some (.int .i64 kd) := by rw [hw1]; go_cell
  have q2 : (w1).cell? ⟨w.heap.size, 2, none⟩ = some (.int .i64 k1) := by rw [hw1]; go_cell
  have q3 : (w1).cell? ⟨w.heap.size, 3, none⟩ = some (.int .i64 k2) := by rw [hw1]; go_cell
  have q4 : (w1).cell? ⟨w.heap.size, 4, none⟩ = some (.int .i32 imm) := by rw [hw1]; go_cell
  have HW1 := lI hw1
  clear hw1 h
  have hp := H1.out.ptr
  have hca := H1.out.hart.get (hlist_reg wf.h k1 h1)
  have hcb := H1.out.hart.get (hlist_reg wf.h k2 h2)
  have hc32 := H1.out.hart.get (hlist_pc wf.h)
  rw [← hxa] at hca
  rw [← hxb] at hcb
  rw [← hpc] at hc32
  have HPC := lI hpc
  have HIM := lI hxn
  clear hxa hxb era erb hpc ua ub un up hxn
  obtain ⟨b1, b2⟩ := HU.out
  have j1 : (k1 : Int) < 32 := om
  have j2 : (k2 : Int) < 32 := om
  go_enter Try.func48, Try.ntmps48
  go_upto_region 1 with (fail)
  rw [← HW1.out]
  go_quiet (fail)
  rw [← HIM.out]
  clear hca hcb
  obtain ⟨n0, n1⟩ := HN.out
  obtain ⟨a0, a1⟩ := HA.out
  have hm := H1.out.mem
  go_upto_region 18 with (fail)
  go_upto_region 21 with (go_at_call 68; refine (HL.out _ (H1.out.drewN _).bytes).mono ?_; rintro e w2 ⟨rfl, rfl⟩)
  clear hm
  go_upto_region 37 with (go_at_call 70; refine (set_any (H1.out.drewN _) wf.h kd hd _).mono ?_; rintro e w2 ⟨rfl, hc, hg⟩)
  have HG : Hid (Cgo cp hb ho vm 58 w w2) := lI (((G1.out.drewN _)).trans hg)
  have wf2 := (wf.set kd xl HLU.out).h
  clear hg q0 q1 q2 q3 q4
  clear hp hc32
  have hp := hc.ptr
  have h32 := hc.hart.get (hlist_pc wf2)
  have f32 := hc.hfz (ho + 32)
  have HC := lI hc
  clear hc
  go_wp2_with fail
  go_end0
  exact ⟨rfl, HC.out.setHart 32 _ _ (hlist_setPc wf2.len _) zT, HG.out.trans (Cgo.setHart _ 32 om _)⟩
end
section
variable {cp hb ho : Nat} {vm : Value} {d : CoreD} {w : World}
theorem do_store_no (h : CoreAt cp hb ho vm 58 w d) (wf : d.Wf) (hlen : d.out.length < 1099511627776) (op : Int) (kd k1 k2 : Nat) (imm : Int) (hop : 16 ≤ op ∧ op ≤ 18) (hd : kd < 32) (h1 : k1 < 32) (h2 : k2 < 32) (hq : mStoreOk d.m op ((d.h.reg k1 + imm % 4294967296) % 4294967296) = false) (hi : -2147483648 ≤ imm ∧ imm ≤ 2147483647) :
    Calls Try.prog 48 #[.pointer (some ⟨cp, 0, none⟩), .agg #[.int .i64 op, .int .i64 kd, .int .i64 k1, .int .i64 k2, .int .i32 imm]] w fun e w' => e = .returned (.tuple #[]) ∧ CoreAt cp hb ho vm 58 w' (doS ⟨op, kd, k1, k2, imm⟩ d) ∧ Cgo cp hb ho vm 58 w w' := by
  obtain ⟨o0, o1⟩ := hop
  have f1 : (op == 1) = false := beq_eq_false_iff_ne.2 om
  have f2 : (op == 2) = false := beq_eq_false_iff_ne.2 om
  have f3 : (op == 3) = false := beq_eq_false_iff_ne.2 om
  have f4 : (op == 4) = false := beq_eq_false_iff_ne.2 om
  obtain ⟨i0, i1⟩ := hi
  obtain ⟨xa, hxa⟩ : ∃ x, x = d.h.regs.getD k1 0 := ⟨_, rfl⟩
  obtain ⟨xb, hxb⟩ : ∃ x, x = d.h.regs.getD k2 0 := ⟨_, rfl⟩
  obtain ⟨xn, hxn⟩ : ∃ x, x = imm % 4294967296 := ⟨_, rfl⟩
  obtain ⟨pc, hpc⟩ : ∃ x, x = d.h.pc := ⟨_, rfl⟩
  have era : d.h.reg (k1 : Int) = xa := by rw [hxa]; rfl
  have erb : d.h.reg (k2 : Int) = xb := by rw [hxb]; rfl
  rw [era, ← hxn] at hq
  have ua : U32 xa := by rw [← era]; exact reg_u wf.h _
  have ub : U32 xb := by rw [← erb]; exact reg_u wf.h _
  have un : U32 xn := by rw [hxn]; exact mod_lo _
  have up : U32 pc := by rw [hpc]; exact wf.h.pc
  have e : doS ⟨op, kd, k1, k2, imm⟩ d = d.trap 4 := by
    unfold doS
    dsimp only
    rw [era, erb, ← hxn, ← hpc]
    rw [if_neg om, if_neg om, if_neg om, if_neg om, if_neg om, if_neg om, if_pos om, if_neg yJ]
  rw [e]
  clear e
  have HPut := lI (fun W hW => cput_any (cp := cp) (hb := hb) (ho := ho) (vm := vm) (d := d) (w := W) hW wf op ((xa + xn) % 4294967296) xb (mod_lo _) ub)
  rw [hq, show d.put op ((xa + xn) % 4294967296) xb = d by unfold CoreD.put; rw [hq]; rfl] at HPut
  have hne := h.hbl
  have HA := lI ua
  have HB := lI ub
  have HN := lI un
  have HU := lI up
  obtain ⟨w1, hw1⟩ : ∃ w1, w1 = w.alloc (.cells #[.int .i64 op, .int .i64 kd, .int .i64 k1, .int .i64 k2, .int .i32 imm] 110) := ⟨_, rfl⟩
  have H1 : Hid (CoreAt cp hb ho vm 58 w1 d) := lI zC
  have G1 : Hid (Cgo cp hb ho vm 58 w w1) := lI zB
  have hbx : cp < w.heap.size := h.lt
  have HX : Hid (w1.heap[w.heap.size]? = some (.cells #[.int .i64 op, .int .i64 kd, .int .i64 k1, .int .i64 k2, .int .i32 imm] 110 (0, 0))) := lI zJ
  have q0 : (w1).cell? ⟨w.heap.size, 0, none⟩ = some (.int .i64 op) := by rw [hw1]; go_cell
  have q1 : (w1).cell? ⟨w.heap.size, 1, none⟩ = some (.int .i64 kd) := by rw [hw1]; go_cell
  have q2 : (w1).cell? ⟨w.heap.size, 2, none⟩ = some (.int .i64 k1) := by rw [hw1]; go_cell
  have q3 : (w1).cell? ⟨w.heap.size, 3, none⟩ = some (.int .i64 k2) := by rw [hw1]; go_cell
  have q4 : (w1).cell? ⟨w.heap.size, 4, none⟩ = some (.int .i32 imm) := by rw [hw1]; go_cell
  have HW1 := lI hw1
  clear hw1 h
  have hp := H1.out.ptr
  have hca := H1.out.hart.get (hlist_reg wf.h k1 h1)
  have hcb := H1.out.hart.get (hlist_reg wf.h k2 h2)
  have hc32 := H1.out.hart.get (hlist_pc wf.h)
  rw [← hxa] at hca
  rw [← hxb] at hcb
  rw [← hpc] at hc32
  have HPC := lI hpc
  have HIM := lI hxn
  clear hxa hxb era erb hpc ua ub un up hxn
  obtain ⟨b1, b2⟩ := HU.out
  have j1 : (k1 : Int) < 32 := om
  have j2 : (k2 : Int) < 32 := om
  go_enter Try.func48, Try.ntmps48
  go_upto_region 1 with (fail)
  rw [← HW1.out]
  go_quiet (fail)
  rw [← HIM.out]
  clear hca hcb
  obtain ⟨n0, n1⟩ := HN.out
  obtain ⟨a0, a1⟩ := HA.out
  go_upto_region 24 with (go_at_call 72; refine (HPut.out _ (H1.out.drewN _)).mono ?_; rintro e w2 ⟨rfl, hc, hg⟩)
  clear hp hc32 q0 q1 q2 q3 q4
  have HG2 := lI ((G1.out.drewN _).trans hg)
  clear hg
  go_wp2_with (go_at_call 47; refine (trap_any hc wf.h _).mono ?_; rintro e w3 ⟨rfl, hc3, hg3⟩)
  exact bodyPost_ret (results_none zE _ _ _) rfl ⟨rfl, hc3, HG2.out.trans hg3⟩
theorem do_store_yes (h : CoreAt cp hb ho vm 58 w d) (wf : d.Wf) (hlen : d.out.length < 1099511627776) (op : Int) (kd k1 k2 : Nat) (imm : Int) (hop : 16 ≤ op ∧ op ≤ 18) (hd : kd < 32) (h1 : k1 < 32) (h2 : k2 < 32) (hq : mStoreOk d.m op ((d.h.reg k1 + imm % 4294967296) % 4294967296) = true) (hi : -2147483648 ≤ imm ∧ imm ≤ 2147483647) :
    Calls Try.prog 48 #[.pointer (some ⟨cp, 0, none⟩), .agg #[.int .i64 op, .int .i64 kd, .int .i64 k1, .int .i64 k2, .int .i32 imm]] w fun e w' => e = .returned (.tuple #[]) ∧ CoreAt cp hb ho vm 58 w' (doS ⟨op, kd, k1, k2, imm⟩ d) ∧ Cgo cp hb ho vm 58 w w' := by
  obtain ⟨o0, o1⟩ := hop
  have f1 : (op == 1) = false := beq_eq_false_iff_ne.2 om
  have f2 : (op == 2) = false := beq_eq_false_iff_ne.2 om
  have f3 : (op == 3) = false := beq_eq_false_iff_ne.2 om
  have f4 : (op == 4) = false := beq_eq_false_iff_ne.2 om
  obtain ⟨i0, i1⟩ := hi
  obtain ⟨xa, hxa⟩ : ∃ x, x = d.h.regs.getD k1 0 := ⟨_, rfl⟩
  obtain ⟨xb, hxb⟩ : ∃ x, x = d.h.regs.getD k2 0 := ⟨_, rfl⟩
  obtain ⟨xn, hxn⟩ : ∃ x, x = imm % 4294967296 := ⟨_, rfl⟩
  obtain ⟨pc, hpc⟩ : ∃ x, x = d.h.pc := ⟨_, rfl⟩
  have era : d.h.reg (k1 : Int) = xa := by rw [hxa]; rfl
  have erb : d.h.reg (k2 : Int) = xb := by rw [hxb]; rfl
  rw [era, ← hxn] at hq
  have ua : U32 xa := by rw [← era]; exact reg_u wf.h _
  have ub : U32 xb := by rw [← erb]; exact reg_u wf.h _
  have un : U32 xn := by rw [hxn]; exact mod_lo _
  have up : U32 pc := by rw [hpc]; exact wf.h.pc
  have e : doS ⟨op, kd, k1, k2, imm⟩ d = (d.put op ((xa + xn) % 4294967296) xb).setPc ((pc + 4) % 4294967296) := by
    unfold doS
    dsimp only
    rw [era, erb, ← hxn, ← hpc]
    rw [if_neg om, if_neg om, if_neg om, if_neg om, if_neg om, if_neg om, if_pos om, if_pos hq]
  rw [e]
  clear e
  have HPut := lI (fun W hW => cput_any (cp := cp) (hb := hb) (ho := ho) (vm := vm) (d := d) (w := W) hW wf op ((xa + xn) % 4294967296) xb (mod_lo _) ub)
  rw [hq] at HPut
  have hne := h.hbl
  have HA := lI ua
  have HB := lI ub
  have HN := lI un
  have HU := lI up
  obtain ⟨w1, hw1⟩ : ∃ w1, w1 = w.alloc (.cells #[.int .i64 op, .int .i64 kd, .int .i64 k1, .int .i64 k2, .int .i32 imm] 110) := ⟨_, rfl⟩
  have H1 : Hid (CoreAt cp hb ho vm 58 w1 d) := lI zC
  have G1 : Hid (Cgo cp hb ho vm 58 w w1) := lI zB
  have hbx : cp < w.heap.size := h.lt
  have HX : Hid (w1.heap[w.heap.size]? = some (.cells #[.int .i64 op, .int .i64 kd, .int .i64 k1, .int .i64 k2, .int .i32 imm] 110 (0, 0))) := lI zJ
  have q0 : (w1).cell? ⟨w.heap.size, 0, none⟩ = some (.int .i64 op) := by rw [hw1]; go_cell
  have q1 : (w1).cell? ⟨w.heap.size, 1, none⟩ = some (.int .i64 kd) := by rw [hw1]; go_cell
  have q2 : (w1).cell? ⟨w.heap.size, 2, none⟩ = some (.int .i64 k1) := by rw [hw1]; go_cell
  have q3 : (w1).cell? ⟨w.heap.size, 3, none⟩ = some (.int .i64 k2) := by rw [hw1]; go_cell
  have q4 : (w1).cell? ⟨w.heap.size, 4, none⟩ = some (.int .i32 imm) := by rw [hw1]; go_cell
  have HW1 := lI hw1
  clear hw1 h
  have hp := H1.out.ptr
  have hca := H1.out.hart.get (hlist_reg wf.h k1 h1)
  have hcb := H1.out.hart.get (hlist_reg wf.h k2 h2)
  have hc32 := H1.out.hart.get (hlist_pc wf.h)
  rw [← hxa] at hca
  rw [← hxb] at hcb
  rw [← hpc] at hc32
  have HPC := lI hpc
  have HIM := lI hxn
  clear hxa hxb era erb hpc ua ub un up hxn
  obtain ⟨b1, b2⟩ := HU.out
  have j1 : (k1 : Int) < 32 := om
  have j2 : (k2 : Int) < 32 := om
  go_enter Try.func48, Try.ntmps48
  go_upto_region 1 with (fail)
  rw [← HW1.out]
  go_quiet (fail)
  rw [← HIM.out]
  clear hca hcb
  obtain ⟨n0, n1⟩ := HN.out
  obtain ⟨a0, a1⟩ := HA.out
  go_upto_region 37 with (go_at_call 72; refine (HPut.out _ (H1.out.drewN _)).mono ?_; rintro e w2 ⟨rfl, hc, hg⟩)
  clear q0 q1 q2 q3 q4
  have HG := lI ((G1.out.drewN _).trans hg)
  have wf2 : (d.put op ((xa + xn) % 4294967296) xb).h.Wf := by rw [CoreD.put_h]; exact wf.h
  clear hg
  clear hp hc32
  have hp := hc.ptr
  have h32 := hc.hart.get (hlist_pc wf2)
  have f32 := hc.hfz (ho + 32)
  have HC := lI hc
  clear hc
  go_wp2_with fail
  go_end0
  exact ⟨rfl, HC.out.setHart 32 _ _ (hlist_setPc wf2.len _) zT, HG.out.trans (Cgo.setHart _ 32 om _)⟩
theorem do_fence (h : CoreAt cp hb ho vm 58 w d) (wf : d.Wf) (hlen : d.out.length < 1099511627776) (kd k1 k2 : Nat) (imm : Int) (hd : kd < 32) (h1 : k1 < 32) (h2 : k2 < 32) (hi : -2147483648 ≤ imm ∧ imm ≤ 2147483647) :
    Calls Try.prog 48 #[.pointer (some ⟨cp, 0, none⟩), .agg #[.int .i64 57, .int .i64 kd, .int .i64 k1, .int .i64 k2, .int .i32 imm]] w fun e w' => e = .returned (.tuple #[]) ∧ CoreAt cp hb ho vm 58 w' (doS ⟨57, kd, k1, k2, imm⟩ d) ∧ Cgo cp hb ho vm 58 w w' := by
  obtain ⟨i0, i1⟩ := hi
  obtain ⟨xa, hxa⟩ : ∃ x, x = d.h.regs.getD k1 0 := ⟨_, rfl⟩
  obtain ⟨xb, hxb⟩ : ∃ x, x = d.h.regs.getD k2 0 := ⟨_, rfl⟩
  obtain ⟨xn, hxn⟩ : ∃ x, x = imm % 4294967296 := ⟨_, rfl⟩
  obtain ⟨pc, hpc⟩ : ∃ x, x = d.h.pc := ⟨_, rfl⟩
  have era : d.h.reg (k1 : Int) = xa := by rw [hxa]; rfl
  have erb : d.h.reg (k2 : Int) = xb := by rw [hxb]; rfl
  have ua : U32 xa := by rw [← era]; exact reg_u wf.h _
  have ub : U32 xb := by rw [← erb]; exact reg_u wf.h _
  have un : U32 xn := by rw [hxn]; exact mod_lo _
  have up : U32 pc := by rw [hpc]; exact wf.h.pc
  have e : doS ⟨57, kd, k1, k2, imm⟩ d = d.setPc ((pc + 4) % 4294967296) := by
    unfold doS
    dsimp only
    rw [era, erb, ← hxn, ← hpc]
    rw [if_neg om, if_neg om, if_neg om, if_neg om, if_neg om, if_neg om, if_neg om, if_neg om, if_neg om, if_neg om, if_neg om, if_neg om]
  rw [e]
  clear e
  have hne := h.hbl
  have HA := lI ua
  have HB := lI ub
  have HN := lI un
  have HU := lI up
  obtain ⟨w1, hw1⟩ : ∃ w1, w1 = w.alloc (.cells #[.int .i64 57, .int .i64 kd, .int .i64 k1, .int .i64 k2, .int .i32 imm] 110) := ⟨_, rfl⟩
  have H1 : Hid (CoreAt cp hb ho vm 58 w1 d) := lI zC
  have G1 : Hid (Cgo cp hb ho vm 58 w w1) := lI zB
  have hbx : cp < w.heap.size := h.lt
  have HX : Hid (w1.heap[w.heap.size]? = some (.cells #[.int .i64 57, .int .i64 kd, .int .i64 k1, .int .i64 k2, .int .i32 imm] 110 (0, 0))) := lI zJ
  have q0 : (w1).cell? ⟨w.heap.size, 0, none⟩ = some (.int .i64 57) := by rw [hw1]; go_cell
  have q1 : (w1).cell? ⟨w.heap.size, 1, none⟩ = some (.int .i64 kd) := by rw [hw1]; go_cell
  have q2 : (w1).cell? ⟨w.heap.size, 2, none⟩ = some (.int .i64 k1) := by rw [hw1]; go_cell
  have q3 : (w1).cell? ⟨w.heap.size, 3, none⟩ = some (.int .i64 k2) := by rw [hw1]; go_cell
  have q4 : (w1).cell? ⟨w.heap.size, 4, none⟩ = some (.int .i32 imm) := by rw [hw1]; go_cell
  have HW1 := lI hw1
  clear hw1 h
  have hp := H1.out.ptr
  have hca := H1.out.hart.get (hlist_reg wf.h k1 h1)
  have hcb := H1.out.hart.get (hlist_reg wf.h k2 h2)
  have hc32 := H1.out.hart.get (hlist_pc wf.h)
  rw [← hxa] at hca
  rw [← hxb] at hcb
  rw [← hpc] at hc32
  have HPC := lI hpc
  have HIM := lI hxn
  clear hxa hxb era erb hpc ua ub un up hxn
  obtain ⟨b1, b2⟩ := HU.out
  have j1 : (k1 : Int) < 32 := om
  have j2 : (k2 : Int) < 32 := om
  go_enter Try.func48, Try.ntmps48
  go_upto_region 1 with (fail)
  rw [← HW1.out]
  go_quiet (fail)
  rw [← HIM.out]
  clear hca hcb
  go_upto_region 37 with (fail)
  have h32 := hc32
  have f32 := H1.out.hfz (ho + 32)
  clear q0 q1 q2 q3 q4 hc32
  go_wp2_with fail
  go_end0
  exact ⟨rfl, (H1.out.drewN _).setHart 32 _ _ (hlist_setPc wf.h.len _) yF, (G1.out.drewN _).trans (Cgo.setHart _ 32 om _)⟩
theorem do_break (h : CoreAt cp hb ho vm 58 w d) (wf : d.Wf) (hlen : d.out.length < 1099511627776) (kd k1 k2 : Nat) (imm : Int) (hd : kd < 32) (h1 : k1 < 32) (h2 : k2 < 32) (hi : -2147483648 ≤ imm ∧ imm ≤ 2147483647) :
    Calls Try.prog 48 #[.pointer (some ⟨cp, 0, none⟩), .agg #[.int .i64 59, .int .i64 kd, .int .i64 k1, .int .i64 k2, .int .i32 imm]] w fun e w' => e = .returned (.tuple #[]) ∧ CoreAt cp hb ho vm 58 w' (doS ⟨59, kd, k1, k2, imm⟩ d) ∧ Cgo cp hb ho vm 58 w w' := by
  obtain ⟨i0, i1⟩ := hi
  obtain ⟨xa, hxa⟩ : ∃ x, x = d.h.regs.getD k1 0 := ⟨_, rfl⟩
  obtain ⟨xb, hxb⟩ : ∃ x, x = d.h.regs.getD k2 0 := ⟨_, rfl⟩
  obtain ⟨xn, hxn⟩ : ∃ x, x = imm % 4294967296 := ⟨_, rfl⟩
  obtain ⟨pc, hpc⟩ : ∃ x, x = d.h.pc := ⟨_, rfl⟩
  have era : d.h.reg (k1 : Int) = xa := by rw [hxa]; rfl
  have erb : d.h.reg (k2 : Int) = xb := by rw [hxb]; rfl
  have ua : U32 xa := by rw [← era]; exact reg_u wf.h _
  have ub : U32 xb := by rw [← erb]; exact reg_u wf.h _
  have un : U32 xn := by rw [hxn]; exact mod_lo _
  have up : U32 pc := by rw [hpc]; exact wf.h.pc
  have e : doS ⟨59, kd, k1, k2, imm⟩ d = d.trap 6 := by
    unfold doS
    dsimp only
    rw [era, erb, ← hxn, ← hpc]
    rw [if_neg om, if_neg om, if_neg om, if_neg om, if_neg om, if_neg om, if_neg om, if_neg om, if_neg om, if_neg om, if_neg om, if_pos om]
  rw [e]
  clear e
  have hne := h.hbl
  have HA := lI ua
  have HB := lI ub
  have HN := lI un
  have HU := lI up
  obtain ⟨w1, hw1⟩ : ∃ w1, w1 = w.alloc (.cells #[.int .i64 59, .int .i64 kd, .int .i64 k1, .int .i64 k2, .int .i32 imm] 110) := ⟨_, rfl⟩
  have H1 : Hid (CoreAt cp hb ho vm 58 w1 d) := lI zC
  have G1 : Hid (Cgo cp hb ho vm 58 w w1) := lI zB
  have hbx : cp < w.heap.size := h.lt
  have HX : Hid (w1.heap[w.heap.size]? = some (.cells #[.int .i64 59, .int .i64 kd, .int .i64 k1, .int .i64 k2, .int .i32 imm] 110 (0, 0))) := lI zJ
  have q0 : (w1).cell? ⟨w.heap.size, 0, none⟩ = some (.int .i64 59) := by rw [hw1]; go_cell
  have q1 : (w1).cell? ⟨w.heap.size, 1, none⟩ = some (.int .i64 kd) := by rw [hw1]; go_cell
  have q2 : (w1).cell? ⟨w.heap.size, 2, none⟩ = some (.int .i64 k1) := by rw [hw1]; go_cell
  have q3 : (w1).cell? ⟨w.heap.size, 3, none⟩ = some (.int .i64 k2) := by rw [hw1]; go_cell
  have q4 : (w1).cell? ⟨w.heap.size, 4, none⟩ = some (.int .i32 imm) := by rw [hw1]; go_cell
  have HW1 := lI hw1
  clear hw1 h
  have hp := H1.out.ptr
  have hca := H1.out.hart.get (hlist_reg wf.h k1 h1)
  have hcb := H1.out.hart.get (hlist_reg wf.h k2 h2)
  have hc32 := H1.out.hart.get (hlist_pc wf.h)
  rw [← hxa] at hca
  rw [← hxb] at hcb
  rw [← hpc] at hc32
  have HPC := lI hpc
  have HIM := lI hxn
  clear hxa hxb era erb hpc ua ub un up hxn
  obtain ⟨b1, b2⟩ := HU.out
  have j1 : (k1 : Int) < 32 := om
  have j2 : (k2 : Int) < 32 := om
  go_enter Try.func48, Try.ntmps48
  go_upto_region 1 with (fail)
  rw [← HW1.out]
  go_quiet (fail)
  rw [← HIM.out]
  clear hca hcb
  clear q1 q2 q3 q4
  go_wp2_with (go_at_call 47; refine (trap_any (H1.out.drewN _) wf.h _).mono ?_; rintro e w2 ⟨rfl, hc, hg⟩)
  exact bodyPost_ret (results_none zE _ _ _) rfl ⟨rfl, hc, (G1.out.drewN _).trans hg⟩
end
section
variable {cp hb ho : Nat} {vm : Value} {d : CoreD} {w : World}
theorem do_call_no (h : CoreAt cp hb ho vm 58 w d) (wf : d.Wf) (hlen : d.out.length < 1099511627776) (kd k1 k2 : Nat) (imm : Int) (hd : kd < 32) (h1 : k1 < 32) (h2 : k2 < 32) (hq : (callS d).2 = false) (hi : -2147483648 ≤ imm ∧ imm ≤ 2147483647) :
    Calls Try.prog 48 #[.pointer (some ⟨cp, 0, none⟩), .agg #[.int .i64 58, .int .i64 kd, .int .i64 k1, .int .i64 k2, .int .i32 imm]] w fun e w' => e = .returned (.tuple #[]) ∧ CoreAt cp hb ho vm 58 w' (doS ⟨58, kd, k1, k2, imm⟩ d) ∧ Cgo cp hb ho vm 58 w w' := by
  obtain ⟨i0, i1⟩ := hi
  obtain ⟨xa, hxa⟩ : ∃ x, x = d.h.regs.getD k1 0 := ⟨_, rfl⟩
  obtain ⟨xb, hxb⟩ : ∃ x, x = d.h.regs.getD k2 0 := ⟨_, rfl⟩
  obtain ⟨xn, hxn⟩ : ∃ x, x = imm % 4294967296 := ⟨_, rfl⟩
  obtain ⟨pc, hpc⟩ : ∃ x, x = d.h.pc := ⟨_, rfl⟩
  have era : d.h.reg (k1 : Int) = xa := by rw [hxa]; rfl
  have erb : d.h.reg (k2 : Int) = xb := by rw [hxb]; rfl
  have ua : U32 xa := by rw [← era]; exact reg_u wf.h _
  have ub : U32 xb := by rw [← erb]; exact reg_u wf.h _
  have un : U32 xn := by rw [hxn]; exact mod_lo _
  have up : U32 pc := by rw [hpc]; exact wf.h.pc
  have e : doS ⟨58, kd, k1, k2, imm⟩ d = (callS d).1 := by
    unfold doS
    dsimp only
    rw [era, erb, ← hxn, ← hpc]
    rw [if_neg om, if_neg om, if_neg om, if_neg om, if_neg om, if_neg om, if_neg om, if_neg om, if_neg om, if_neg om, if_pos om, if_neg yJ]
  rw [e]
  clear e
  have HCa := lI (fun W hW => call_any (cp := cp) (hb := hb) (ho := ho) (vm := vm) (d := d) (w := W) hW wf hlen)
  rw [hq] at HCa
  generalize (callS d).1 = d2 at *
  have hne := h.hbl
  have HA := lI ua
  have HB := lI ub
  have HN := lI un
  have HU := lI up
  obtain ⟨w1, hw1⟩ : ∃ w1, w1 = w.alloc (.cells #[.int .i64 58, .int .i64 kd, .int .i64 k1, .int .i64 k2, .int .i32 imm] 110) := ⟨_, rfl⟩
  have H1 : Hid (CoreAt cp hb ho vm 58 w1 d) := lI zC
  have G1 : Hid (Cgo cp hb ho vm 58 w w1) := lI zB
  have hbx : cp < w.heap.size := h.lt
  have HX : Hid (w1.heap[w.heap.size]? = some (.cells #[.int .i64 58, .int .i64 kd, .int .i64 k1, .int .i64 k2, .int .i32 imm] 110 (0, 0))) := lI zJ
  have q0 : (w1).cell? ⟨w.heap.size, 0, none⟩ = some (.int .i64 58) := by rw [hw1]; go_cell
  have q1 : (w1).cell? ⟨w.heap.size, 1, none⟩ = some (.int .i64 kd) := by rw [hw1]; go_cell
  have q2 : (w1).cell? ⟨w.heap.size, 2, none⟩ = some (.int .i64 k1) := by rw [hw1]; go_cell
  have q3 : (w1).cell? ⟨w.heap.size, 3, none⟩ = some (.int .i64 k2) := by rw [hw1]; go_cell
  have q4 : (w1).cell? ⟨w.heap.size, 4, none⟩ = some (.int .i32 imm) := by rw [hw1]; go_cell
  have HW1 := lI hw1
  clear hw1 h
  have hp := H1.out.ptr
  have hca := H1.out.hart.get (hlist_reg wf.h k1 h1)
  have hcb := H1.out.hart.get (hlist_reg wf.h k2 h2)
  have hc32 := H1.out.hart.get (hlist_pc wf.h)
  rw [← hxa] at hca
  rw [← hxb] at hcb
  rw [← hpc] at hc32
  have HPC := lI hpc
  have HIM := lI hxn
  clear hxa hxb era erb hpc ua ub un up hxn
  obtain ⟨b1, b2⟩ := HU.out
  have j1 : (k1 : Int) < 32 := om
  have j2 : (k2 : Int) < 32 := om
  go_enter Try.func48, Try.ntmps48
  go_upto_region 1 with (fail)
  rw [← HW1.out]
  go_quiet (fail)
  rw [← HIM.out]
  clear hca hcb
  go_wp2_with (go_at_call 76; refine (HCa.out _ (H1.out.drewN _)).mono ?_; rintro e w2 ⟨rfl, hc, hg⟩)
  exact bodyPost_ret (results_none zE _ _ _) rfl ⟨rfl, hc, (G1.out.drewN _).trans hg⟩
theorem do_call_yes (h : CoreAt cp hb ho vm 58 w d) (wf : d.Wf) (hlen : d.out.length < 1099511627776) (kd k1 k2 : Nat) (imm : Int) (hd : kd < 32) (h1 : k1 < 32) (h2 : k2 < 32) (hq : (callS d).2 = true) (hi : -2147483648 ≤ imm ∧ imm ≤ 2147483647) :
    Calls Try.prog 48 #[.pointer (some ⟨cp, 0, none⟩), .agg #[.int .i64 58, .int .i64 kd, .int .i64 k1, .int .i64 k2, .int .i32 imm]] w fun e w' => e = .returned (.tuple #[]) ∧ CoreAt cp hb ho vm 58 w' (doS ⟨58, kd, k1, k2, imm⟩ d) ∧ Cgo cp hb ho vm 58 w w' := by
  obtain ⟨i0, i1⟩ := hi
  obtain ⟨xa, hxa⟩ : ∃ x, x = d.h.regs.getD k1 0 := ⟨_, rfl⟩
  obtain ⟨xb, hxb⟩ : ∃ x, x = d.h.regs.getD k2 0 := ⟨_, rfl⟩
  obtain ⟨xn, hxn⟩ : ∃ x, x = imm % 4294967296 := ⟨_, rfl⟩
  obtain ⟨pc, hpc⟩ : ∃ x, x = d.h.pc := ⟨_, rfl⟩
  have era : d.h.reg (k1 : Int) = xa := by rw [hxa]; rfl
  have erb : d.h.reg (k2 : Int) = xb := by rw [hxb]; rfl
  have ua : U32 xa := by rw [← era]; exact reg_u wf.h _
  have ub : U32 xb := by rw [← erb]; exact reg_u wf.h _
  have un : U32 xn := by rw [hxn]; exact mod_lo _
  have up : U32 pc := by rw [hpc]; exact wf.h.pc
  have e : doS ⟨58, kd, k1, k2, imm⟩ d = (callS d).1.setPc ((pc + 4) % 4294967296) := by
    unfold doS
    dsimp only
    rw [era, erb, ← hxn, ← hpc]
    rw [if_neg om, if_neg om, if_neg om, if_neg om, if_neg om, if_neg om, if_neg om, if_neg om, if_neg om, if_neg om, if_pos om, if_pos hq]
  rw [e]
  clear e
  have HCa := lI (fun W hW => call_any (cp := cp) (hb := hb) (ho := ho) (vm := vm) (d := d) (w := W) hW wf hlen)
  rw [hq] at HCa
  have wf2 : (callS d).1.h.Wf := (callS_wf wf hlen).h
  generalize (callS d).1 = d2 at *
  have hne := h.hbl
  have HA := lI ua
  have HB := lI ub
  have HN := lI un
  have HU := lI up
  obtain ⟨w1, hw1⟩ : ∃ w1, w1 = w.alloc (.cells #[.int .i64 58, .int .i64 kd, .int .i64 k1, .int .i64 k2, .int .i32 imm] 110) := ⟨_, rfl⟩
  have H1 : Hid (CoreAt cp hb ho vm 58 w1 d) := lI zC
  have G1 : Hid (Cgo cp hb ho vm 58 w w1) := lI zB
  have hbx : cp < w.heap.size := h.lt
  have HX : Hid (w1.heap[w.heap.size]? = some (.cells #[.int .i64 58, .int .i64 kd, .int .i64 k1, .int .i64 k2, .int .i32 imm] 110 (0, 0))) := lI zJ
  have q0 : (w1).cell? ⟨w.heap.size, 0, none⟩ = some (.int .i64 58) := by rw [hw1]; go_cell
  have q1 : (w1).cell? ⟨w.heap.size, 1, none⟩ = some (.int .i64 kd) := by rw [hw1]; go_cell
  have q2 : (w1).cell? ⟨w.heap.size, 2, none⟩ = some (.int .i64 k1) := by rw [hw1]; go_cell
  have q3 : (w1).cell? ⟨w.heap.size, 3, none⟩ = some (.int .i64 k2) := by rw [hw1]; go_cell
  have q4 : (w1).cell? ⟨w.heap.size, 4, none⟩ = some (.int .i32 imm) := by rw [hw1]; go_cell
  have HW1 := lI hw1
  clear hw1 h
  have hp := H1.out.ptr
  have hca := H1.out.hart.get (hlist_reg wf.h k1 h1)
  have hcb := H1.out.hart.get (hlist_reg wf.h k2 h2)
  have hc32 := H1.out.hart.get (hlist_pc wf.h)
  rw [← hxa] at hca
  rw [← hxb] at hcb
  rw [← hpc] at hc32
  have HPC := lI hpc
  have HIM := lI hxn
  clear hxa hxb era erb hpc ua ub un up hxn
  obtain ⟨b1, b2⟩ := HU.out
  have j1 : (k1 : Int) < 32 := om
  have j2 : (k2 : Int) < 32 := om
  go_enter Try.func48, Try.ntmps48
  go_upto_region 1 with (fail)
  rw [← HW1.out]
  go_quiet (fail)
  rw [← HIM.out]
  clear hca hcb
  go_upto_region 37 with (go_at_call 76; refine (HCa.out _ (H1.out.drewN _)).mono ?_; rintro e w2 ⟨rfl, hc, hg⟩)
  clear q0 q1 q2 q3 q4
  have HG := lI ((G1.out.drewN _).trans hg)
  clear hg
  clear hp hc32
  have hp := hc.ptr
  have h32 := hc.hart.get (hlist_pc wf2)
  have f32 := hc.hfz (ho + 32)
  have HC := lI hc
  clear hc
  go_wp2_with fail
  go_end0
  exact ⟨rfl, HC.out.setHart 32 _ _ (hlist_setPc wf2.len _) zT, HG.out.trans (Cgo.setHart _ 32 om _)⟩
theorem do_atom_no (h : CoreAt cp hb ho vm 58 w d) (wf : d.Wf) (hlen : d.out.length < 1099511627776) (op : Int) (kd k1 k2 : Nat) (imm : Int) (hop : 46 ≤ op ∧ op ≤ 56) (hd : kd < 32) (h1 : k1 < 32) (h2 : k2 < 32) (hq : (atomS d op (d.h.reg k1) (d.h.reg k2)).2.2 = false) (hi : -2147483648 ≤ imm ∧ imm ≤ 2147483647) :
    Calls Try.prog 48 #[.pointer (some ⟨cp, 0, none⟩), .agg #[.int .i64 op, .int .i64 kd, .int .i64 k1, .int .i64 k2, .int .i32 imm]] w fun e w' => e = .returned (.tuple #[]) ∧ CoreAt cp hb ho vm 58 w' (doS ⟨op, kd, k1, k2, imm⟩ d) ∧ Cgo cp hb ho vm 58 w w' := by
  obtain ⟨o0, o1⟩ := hop
  have f1 : (op == 1) = false := beq_eq_false_iff_ne.2 om
  have f2 : (op == 2) = false := beq_eq_false_iff_ne.2 om
  have f3 : (op == 3) = false := beq_eq_false_iff_ne.2 om
  have f4 : (op == 4) = false := beq_eq_false_iff_ne.2 om
  obtain ⟨i0, i1⟩ := hi
  obtain ⟨xa, hxa⟩ : ∃ x, x = d.h.regs.getD k1 0 := ⟨_, rfl⟩
  obtain ⟨xb, hxb⟩ : ∃ x, x = d.h.regs.getD k2 0 := ⟨_, rfl⟩
  obtain ⟨xn, hxn⟩ : ∃ x, x = imm % 4294967296 := ⟨_, rfl⟩
  obtain ⟨pc, hpc⟩ : ∃ x, x = d.h.pc := ⟨_, rfl⟩
  have era : d.h.reg (k1 : Int) = xa := by rw [hxa]; rfl
  have erb : d.h.reg (k2 : Int) = xb := by rw [hxb]; rfl
  rw [era, erb] at hq
  have ua : U32 xa := by rw [← era]; exact reg_u wf.h _
  have ub : U32 xb := by rw [← erb]; exact reg_u wf.h _
  have un : U32 xn := by rw [hxn]; exact mod_lo _
  have up : U32 pc := by rw [hpc]; exact wf.h.pc
  have e : doS ⟨op, kd, k1, k2, imm⟩ d = (atomS d op xa xb).1 := by
    unfold doS
    dsimp only
    rw [era, erb, ← hxn, ← hpc]
    rw [if_neg om, if_neg om, if_neg om, if_neg om, if_neg om, if_neg om, if_neg om, if_neg om, if_neg om, if_pos om, if_neg yJ]
  rw [e]
  clear e
  have HAt := lI (fun W hW => atom_any (cp := cp) (hb := hb) (ho := ho) (vm := vm) (d := d) (w := W) hW wf op xa xb ⟨o0, o1⟩ ua ub)
  rw [hq] at HAt
  generalize (atomS d op xa xb).1 = d2 at *
  generalize (atomS d op xa xb).2.1 = xl at *
  have hne := h.hbl
  have HA := lI ua
  have HB := lI ub
  have HN := lI un
  have HU := lI up
  obtain ⟨w1, hw1⟩ : ∃ w1, w1 = w.alloc (.cells #[.int .i64 op, .int .i64 kd, .int .i64 k1, .int .i64 k2, .int .i32 imm] 110) := ⟨_, rfl⟩
  have H1 : Hid (CoreAt cp hb ho vm 58 w1 d) := lI zC
  have G1 : Hid (Cgo cp hb ho vm 58 w w1) := lI zB
  have hbx : cp < w.heap.size := h.lt
  have HX : Hid (w1.heap[w.heap.size]? = some (.cells #[.int .i64 op, .int .i64 kd, .int .i64 k1, .int .i64 k2, .int .i32 imm] 110 (0, 0))) := lI zJ
  have q0 : (w1).cell? ⟨w.heap.size, 0, none⟩ = some (.int .i64 op) := by rw [hw1]; go_cell
  have q1 : (w1).cell? ⟨w.heap.size, 1, none⟩ = some (.int .i64 kd) := by rw [hw1]; go_cell
  have q2 : (w1).cell? ⟨w.heap.size, 2, none⟩ = some (.int .i64 k1) := by rw [hw1]; go_cell
  have q3 : (w1).cell? ⟨w.heap.size, 3, none⟩ = some (.int .i64 k2) := by rw [hw1]; go_cell
  have q4 : (w1).cell? ⟨w.heap.size, 4, none⟩ = some (.int .i32 imm) := by rw [hw1]; go_cell
  have HW1 := lI hw1
  clear hw1 h
  have hp := H1.out.ptr
  have hca := H1.out.hart.get (hlist_reg wf.h k1 h1)
  have hcb := H1.out.hart.get (hlist_reg wf.h k2 h2)
  have hc32 := H1.out.hart.get (hlist_pc wf.h)
  rw [← hxa] at hca
  rw [← hxb] at hcb
  rw [← hpc] at hc32
  have HPC := lI hpc
  have HIM := lI hxn
  clear hxa hxb era erb hpc ua ub un up hxn
  obtain ⟨b1, b2⟩ := HU.out
  have j1 : (k1 : Int) < 32 := om
  have j2 : (k2 : Int) < 32 := om
  go_enter Try.func48, Try.ntmps48
  go_upto_region 1 with (fail)
  rw [← HW1.out]
  go_quiet (fail)
  rw [← HIM.out]
  clear hca hcb
  go_wp2_with (go_at_call 75; refine (HAt.out _ (H1.out.drewN _)).mono ?_; rintro e w2 ⟨rfl, hc, hg⟩)
  exact bodyPost_ret (results_none zE _ _ _) rfl ⟨rfl, hc, (G1.out.drewN _).trans hg⟩
theorem do_atom_yes (h : CoreAt cp hb ho vm 58 w d) (wf : d.Wf) (hlen : d.out.length < 1099511627776) (op : Int) (kd k1 k2 : Nat) (imm : Int) (hop : 46 ≤ op ∧ op ≤ 56) (hd : kd < 32) (h1 : k1 < 32) (h2 : k2 < 32) (hq : (atomS d op (d.h.reg k1) (d.h.reg k2)).2.2 = true) (hi : -2147483648 ≤ imm ∧ imm ≤ 2147483647) :
    Calls Try.prog 48 #[.pointer (some ⟨cp, 0, none⟩), .agg #[.int .i64 op, .int .i64 kd, .int .i64 k1, .int .i64 k2, .int .i32 imm]] w fun e w' => e = .returned (.tuple #[]) ∧ CoreAt cp hb ho vm 58 w' (doS ⟨op, kd, k1, k2, imm⟩ d) ∧ Cgo cp hb ho vm 58 w w' := by
  obtain ⟨o0, o1⟩ := hop
  have f1 : (op == 1) = false := beq_eq_false_iff_ne.2 om
  have f2 : (op == 2) = false := beq_eq_false_iff_ne.2 om
  have f3 : (op == 3) = false := beq_eq_false_iff_ne.2 om
  have f4 : (op == 4) = false := beq_eq_false_iff_ne.2 om
  obtain ⟨i0, i1⟩ := hi
  obtain ⟨xa, hxa⟩ : ∃ x, x = d.h.regs.getD k1 0 := ⟨_, rfl⟩
  obtain ⟨xb, hxb⟩ : ∃ x, x = d.h.regs.getD k2 0 := ⟨_, rfl⟩
  obtain ⟨xn, hxn⟩ : ∃ x, x = imm % 4294967296 := ⟨_, rfl⟩
  obtain ⟨pc, hpc⟩ : ∃ x, x = d.h.pc := ⟨_, rfl⟩
  have era : d.h.reg (k1 : Int) = xa := by rw [hxa]; rfl
  have erb : d.h.reg (k2 : Int) = xb := by rw [hxb]; rfl
  rw [era, erb] at hq
  have ua : U32 xa := by rw [← era]; exact reg_u wf.h _
  have ub : U32 xb := by rw [← erb]; exact reg_u wf.h _
  have un : U32 xn := by rw [hxn]; exact mod_lo _
  have up : U32 pc := by rw [hpc]; exact wf.h.pc
  have e : doS ⟨op, kd, k1, k2, imm⟩ d = ((atomS d op xa xb).1.set kd (atomS d op xa xb).2.1).setPc ((pc + 4) % 4294967296) := by
    unfold doS
    dsimp only
    rw [era, erb, ← hxn, ← hpc]
    rw [if_neg om, if_neg om, if_neg om, if_neg om, if_neg om, if_neg om, if_neg om, if_neg om, if_neg om, if_pos om, if_pos hq]
  rw [e]
  clear e
  have HAt := lI (fun W hW => atom_any (cp := cp) (hb := hb) (ho := ho) (vm := vm) (d := d) (w := W) hW wf op xa xb ⟨o0, o1⟩ ua ub)
  rw [hq] at HAt
  have HWF := lI (atomS_wf wf op xa xb ua ub)
  generalize (atomS d op xa xb).1 = d2 at *
  generalize (atomS d op xa xb).2.1 = xl at *
  have hne := h.hbl
  have HA := lI ua
  have HB := lI ub
  have HN := lI un
  have HU := lI up
  obtain ⟨w1, hw1⟩ : ∃ w1, w1 = w.alloc (.cells #[.int .i64 op, .int .i64 kd, .int .i64 k1, .int .i64 k2, .int .i32 imm] 110) := ⟨_, rfl⟩
  have H1 : Hid (CoreAt cp hb ho vm 58 w1 d) := lI zC
  have G1 : Hid (Cgo cp hb ho vm 58 w w1) := lI zB
  have hbx : cp < w.heap.size := h.lt
  have HX : Hid (w1.heap[w.heap.size]? = some (.cells #[.int .i64 op, .int .i64 kd, .int .i64 k1, .int .i64 k2, .int .i32 imm] 110 (0, 0))) := lI zJ
  have q0 : (w1).cell? ⟨w.heap.size, 0, none⟩ = some (.int .i64 op) := by rw [hw1]; go_cell
  have q1 : (w1).cell? ⟨w.heap.size, 1, none⟩ = some (.int .i64 kd) := by rw [hw1]; go_cell
  have q2 : (w1).cell? ⟨w.heap.size, 2, none⟩ = some (.int .i64 k1) := by rw [hw1]; go_cell
  have q3 : (w1).cell? ⟨w.heap.size, 3, none⟩ = some (.int .i64 k2) := by rw [hw1]; go_cell
  have q4 : (w1).cell? ⟨w.heap.size, 4, none⟩ = some (.int .i32 imm) := by rw [hw1]; go_cell
  have HW1 := lI hw1
  clear hw1 h
  have hp := H1.out.ptr
  have hca := H1.out.hart.get (hlist_reg wf.h k1 h1)
  have hcb := H1.out.hart.get (hlist_reg wf.h k2 h2)
  have hc32 := H1.out.hart.get (hlist_pc wf.h)
  rw [← hxa] at hca
  rw [← hxb] at hcb
  rw [← hpc] at hc32
  have HPC := lI hpc
  have HIM := lI hxn
  clear hxa hxb era erb hpc ua ub un up hxn
  obtain ⟨b1, b2⟩ := HU.out
  have j1 : (k1 : Int) < 32 := om
  have j2 : (k2 : Int) < 32 := om
  go_enter Try.func48, Try.ntmps48
  go_upto_region 1 with (fail)
  rw [← HW1.out]
  go_quiet (fail)
  rw [← HIM.out]
  clear hca hcb
  go_upto_region 32 with (go_at_call 75; refine (HAt.out _ (H1.out.drewN _)).mono ?_; rintro e w2 ⟨rfl, hc0, hg0⟩)
  have HG0 := lI ((G1.out.drewN _).trans hg0)
  have p1 : w2.cell? ⟨w.heap.size, 1, none⟩ = some (.int .i64 kd) := (World.cell?_of_block (w := w1) (hg0.block w.heap.size (lt_of_cell q1) (by have := H1.out.hbl; omega) (fun e => by have := H1.out.vm_lt e; omega) (.inr ⟨hbx, fun cs fr e => by change w1.heap[w.heap.size]? = _ at e; rw [HX.out] at e; injection e with e; injection e with e1 e2; exact absurd e2 zN⟩))).trans q1
  clear hg0 q0 q1 q2 q3 q4 hp hc32
  go_upto_region 37 with (go_at_call 70; refine (set_any hc0 HWF.out.1.h kd hd _).mono ?_; rintro e w3 ⟨rfl, hc, hg⟩)
  have HG : Hid (Cgo cp hb ho vm 58 w w3) := lI (HG0.out.trans hg)
  have wf2 := (HWF.out.1.set kd xl HWF.out.2).h
  clear hg p1
  have hp := hc.ptr
  have hc32 := hc.hart.get (hlist_pc wf2)
  clear hp hc32
  have hp := hc.ptr
  have h32 := hc.hart.get (hlist_pc wf2)
  have f32 := hc.hfz (ho + 32)
  have HC := lI hc
  clear hc
  go_wp2_with fail
  go_end0
  exact ⟨rfl, HC.out.setHart 32 _ _ (hlist_setPc wf2.len _) zT, HG.out.trans (Cgo.setHart _ 32 om _)⟩
end
end Go.Proofs.Ytlfnddmncbkjaac.W
