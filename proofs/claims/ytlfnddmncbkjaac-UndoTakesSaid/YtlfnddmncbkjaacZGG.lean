import Derived.Test.YtlfnddmncbkjaacZGE
import Derived.Deep.RegionHeld3
import Derived.Test.YtlfnddmncbkjaacZGF
set_option linter.unusedVariables false
set_option linter.unusedSimpArgs false
set_option maxRecDepth 100000
set_option maxHeartbeats 4000000
namespace Go.Proofs.Ytlfnddmncbkjaac.W
open Go.RowKit Fb
section
variable {cp hb ho : Nat} {vm : Value} {d : CoreD} {w : World}
theorem do_auipc (h : CoreAt cp hb ho vm 58 w d) (wf : d.Wf) (hlen : d.out.length < 1099511627776) (kd k1 k2 : Nat) (imm : Int) (hd : kd < 32) (h1 : k1 < 32) (h2 : k2 < 32) (hi : -2147483648 ≤ imm ∧ imm ≤ 2147483647) :
    Calls Try.prog 48 #[.pointer (some ⟨cp, 0, none⟩), .agg #[.int .i64 2, .int .i64 kd, .int .i64 k1, .int .i64 k2, .int .i32 imm]] w fun e w' => e = .returned (.tuple #[]) ∧ CoreAt cp hb ho vm 58 w' (doS ⟨2, kd, k1, k2, imm⟩ d) ∧ Cgo cp hb ho vm 58 w w' := by
  obtain ⟨i0, i1⟩ := hi
  obtain ⟨xa, hxa⟩ : ∃ x, x = d.h.regs.getD k1 0 := ⟨_, rfl⟩
  obtain ⟨xb, hxb⟩ : ∃ x, x = d.h.regs.getD k2 0 := ⟨_, rfl⟩
  obtain ⟨xn, hxn⟩ : ∃ x, x = imm % 4294967296 := ⟨_, rfl⟩
  obtain ⟨pc, hpc⟩ : ∃ x, x = d.h.pc := ⟨_, rfl⟩
  have era : d.h.reg (k1 : Int) = xa := by rw [hxa]; rfl
  have erb : d.h.reg (k2 : Int) = xb := by rw [hxb]; rfl
  have ua : U32 xa := by rw [← era]; exact reg_u wf.h _
  have ub : U32 xb := by rw [← erb]; exact reg_u wf.h _
  have un : U32 xn := by rw [hxn]; exact mod_lo _
  have up : U32 pc := by rw [hpc]; exact wf.h.pc
  have e : doS ⟨2, kd, k1, k2, imm⟩ d = (d.set kd ((pc + xn) % 4294967296)).setPc ((pc + 4) % 4294967296) := by
    unfold doS
    dsimp only
    rw [era, erb, ← hxn, ← hpc]
    rw [if_neg om, if_pos rfl]
  rw [e]
  clear e
  have hne := h.hbl
  have HA := lI ua
  have HB := lI ub
  have HN := lI un
  have HU := lI up
  obtain ⟨w1, hw1⟩ : ∃ w1, w1 = w.alloc (.cells #[.int .i64 2, .int .i64 kd, .int .i64 k1, .int .i64 k2, .int .i32 imm] 110) := ⟨_, rfl⟩
  have H1 : Hid (CoreAt cp hb ho vm 58 w1 d) := lI zC
  have G1 : Hid (Cgo cp hb ho vm 58 w w1) := lI zB
  have hbx : cp < w.heap.size := h.lt
  have HX : Hid (w1.heap[w.heap.size]? = some (.cells #[.int .i64 2, .int .i64 kd, .int .i64 k1, .int .i64 k2, .int .i32 imm] 110 (0, 0))) := lI zJ
  have q0 : (w1).cell? ⟨w.heap.size, 0, none⟩ = some (.int .i64 2) := by rw [hw1]; go_cell
  have q1 : (w1).cell? ⟨w.heap.size, 1, none⟩ = some (.int .i64 kd) := by rw [hw1]; go_cell
  have q2 : (w1).cell? ⟨w.heap.size, 2, none⟩ = some (.int .i64 k1) := by rw [hw1]; go_cell
  have q3 : (w1).cell? ⟨w.heap.size, 3, none⟩ = some (.int .i64 k2) := by rw [hw1]; go_cell
  have q4 : (w1).cell? ⟨w.heap.size, 4, none⟩ = some (.int .i32 imm) := by rw [hw1]; go_cell
  have HW1 := lI hw1
  clear hw1 h
  have hp := H1.out.ptr
  have hca := H1.out.hart.get (hlist_reg wf.h k1 h1)
  have hcb := H1.out.hart.get (hlist_reg wf.h k2 h2)
  have hc32 := H1.out.hart.get (hlist_pc wf.h)
  rw [← hxa] at hca
  rw [← hxb] at hcb
  rw [← hpc] at hc32
  have HPC := lI hpc
  have HIM := lI hxn
  clear hxa hxb era erb hpc ua ub un up hxn
  obtain ⟨b1, b2⟩ := HU.out
  have j1 : (k1 : Int) < 32 := om
  have j2 : (k2 : Int) < 32 := om
  go_enter Try.func48, Try.ntmps48
  go_upto_region 1 with (fail)
  rw [← HW1.out]
  go_quiet (fail)
  rw [← HIM.out]
  clear hca hcb
  obtain ⟨n0, n1⟩ := HN.out
  have KP : Hid (∀ wx w2, wx.heap = w1.heap → Cgo cp hb ho vm 58 wx w2 → w2.cell? ⟨w.heap.size, 1, none⟩ = some (.int .i64 kd)) := lI (fun wx w2 eh hg =>
    have hsz : wx.heap.size = w1.heap.size := by rw [eh]
    (World.cell?_of_block (w := w1) ((hg.block w.heap.size (by have := lt_of_cell q1; rw [hsz]; exact this) (by have := H1.out.hbl; omega) (fun e => by have := H1.out.vm_lt e; omega) (.inr ⟨hbx, fun cs fr e => by rw [eh, HX.out] at e; injection e with e; injection e with e1 e2; exact absurd e2 zN⟩)).trans (by rw [eh]))).trans q1)
  have PK : Hid (∀ r x w2, CoreAt cp hb ho vm 58 w2 (d.set r x) → U32 x → w2.cell? ⟨hb, ho + 32, none⟩ = some (.int .u32 pc)) := lI (fun r x w2 hc ux => by
    have := hc.hart.get (hlist_pc (wf.set r x ux).h)
    rw [this, HPC.out]
    unfold CoreD.set Hart.setReg
    split <;> rfl)
  go_upto_region 7 with (fail)
  go_region_held3 (fun w' => w'.cell? ⟨w.heap.size, 1, none⟩ = some (.int .i64 kd) ∧ w'.cell? ⟨cp, 0, none⟩ = some (.pointer (some ⟨hb, ho, none⟩)) ∧ w'.cell? ⟨hb, ho + 32, none⟩ = some (.int .u32 pc))
    (first | exact ⟨q1, hp, hc32⟩ | exact ⟨p1, p2, p3⟩)
    ((first | (go_at_call 70; (try rw [IntKind.wrap_u32]); refine (set_any (H1.out.below (by repeat (first | exact Below.refl _ _ | refine below_drewN ?_ _ | refine Below.drew ?_))) wf.h kd hd _).mono ?_; rintro e w2 ⟨rfl, hc, hg⟩; have p1 := KP.out _ w2 zE hg; have p2 := hc.ptr; have p3 := PK.out _ _ w2 hc (mod_lo _))))
  have HG : Hid (Cgo cp hb ho vm 58 w w2) := lI ((G1.out.drewN _).trans hg)
  have wf2 := (wf.set kd _ (mod_lo ((pc + xn)))).h
  clear hg q0 q1 q2 q3 q4 p1 p2 p3
  clear hp hc32
  have hp := hc.ptr
  have h32 := hc.hart.get (hlist_pc wf2)
  have f32 := hc.hfz (ho + 32)
  have HC := lI hc
  clear hc
  go_wp2_with fail
  go_end0
  exact ⟨rfl, HC.out.setHart 32 _ _ (hlist_setPc wf2.len _) zT, HG.out.trans (Cgo.setHart _ 32 om _)⟩
end
section
variable {cp hb ho : Nat} {vm : Value} {d : CoreD} {w : World}
theorem imm_any (op : Int) (w : World) (hop : 19 ≤ op ∧ op ≤ 27) : Calls Try.prog 74 #[.int .i64 op] w fun e w' => e = .returned (.int .i64 (immOp op)) ∧ w = w' := by
  have ix0 : ∀ W, (Instr.index 184 (.agg #[.int .i64 28, .int .i64 31, .int .i64 32, .int .i64 33, .int .i64 36, .int .i64 37, .int .i64 30, .int .i64 34, .int .i64 35]) (.int .i64 0)).run Try.prog W = .ok (.int .i64 28) W := fun _ => by kernel_rfl
  have ix1 : ∀ W, (Instr.index 184 (.agg #[.int .i64 28, .int .i64 31, .int .i64 32, .int .i64 33, .int .i64 36, .int .i64 37, .int .i64 30, .int .i64 34, .int .i64 35]) (.int .i64 1)).run Try.prog W = .ok (.int .i64 31) W := fun _ => by kernel_rfl
  have ix2 : ∀ W, (Instr.index 184 (.agg #[.int .i64 28, .int .i64 31, .int .i64 32, .int .i64 33, .int .i64 36, .int .i64 37, .int .i64 30, .int .i64 34, .int .i64 35]) (.int .i64 2)).run Try.prog W = .ok (.int .i64 32) W := fun _ => by kernel_rfl
  have ix3 : ∀ W, (Instr.index 184 (.agg #[.int .i64 28, .int .i64 31, .int .i64 32, .int .i64 33, .int .i64 36, .int .i64 37, .int .i64 30, .int .i64 34, .int .i64 35]) (.int .i64 3)).run Try.prog W = .ok (.int .i64 33) W := fun _ => by kernel_rfl
  have ix4 : ∀ W, (Instr.index 184 (.agg #[.int .i64 28, .int .i64 31, .int .i64 32, .int .i64 33, .int .i64 36, .int .i64 37, .int .i64 30, .int .i64 34, .int .i64 35]) (.int .i64 4)).run Try.prog W = .ok (.int .i64 36) W := fun _ => by kernel_rfl
  have ix5 : ∀ W, (Instr.index 184 (.agg #[.int .i64 28, .int .i64 31, .int .i64 32, .int .i64 33, .int .i64 36, .int .i64 37, .int .i64 30, .int .i64 34, .int .i64 35]) (.int .i64 5)).run Try.prog W = .ok (.int .i64 37) W := fun _ => by kernel_rfl
  have ix6 : ∀ W, (Instr.index 184 (.agg #[.int .i64 28, .int .i64 31, .int .i64 32, .int .i64 33, .int .i64 36, .int .i64 37, .int .i64 30, .int .i64 34, .int .i64 35]) (.int .i64 6)).run Try.prog W = .ok (.int .i64 30) W := fun _ => by kernel_rfl
  have ix7 : ∀ W, (Instr.index 184 (.agg #[.int .i64 28, .int .i64 31, .int .i64 32, .int .i64 33, .int .i64 36, .int .i64 37, .int .i64 30, .int .i64 34, .int .i64 35]) (.int .i64 7)).run Try.prog W = .ok (.int .i64 34) W := fun _ => by kernel_rfl
  have ix8 : ∀ W, (Instr.index 184 (.agg #[.int .i64 28, .int .i64 31, .int .i64 32, .int .i64 33, .int .i64 36, .int .i64 37, .int .i64 30, .int .i64 34, .int .i64 35]) (.int .i64 8)).run Try.prog W = .ok (.int .i64 35) W := fun _ => by kernel_rfl
  have ho : op = 19 ∨ op = 20 ∨ op = 21 ∨ op = 22 ∨ op = 23 ∨ op = 24 ∨ op = 25 ∨ op = 26 ∨ op = 27 := om
  rcases ho with rfl | rfl | rfl | rfl | rfl | rfl | rfl | rfl | rfl
  all_goals
    go_enter Try.func74, Try.ntmps74
    go_wp2_with fail
    go_ret
    exact ⟨rfl, rfl⟩
theorem do_alu (h : CoreAt cp hb ho vm 58 w d) (wf : d.Wf) (hlen : d.out.length < 1099511627776) (op : Int) (kd k1 k2 : Nat) (imm : Int) (hop : 28 ≤ op ∧ op ≤ 45) (hd : kd < 32) (h1 : k1 < 32) (h2 : k2 < 32) (hi : -2147483648 ≤ imm ∧ imm ≤ 2147483647) :
    Calls Try.prog 48 #[.pointer (some ⟨cp, 0, none⟩), .agg #[.int .i64 op, .int .i64 kd, .int .i64 k1, .int .i64 k2, .int .i32 imm]] w fun e w' => e = .returned (.tuple #[]) ∧ CoreAt cp hb ho vm 58 w' (doS ⟨op, kd, k1, k2, imm⟩ d) ∧ Cgo cp hb ho vm 58 w w' := by
  obtain ⟨o0, o1⟩ := hop
  have f1 : (op == 1) = false := beq_eq_false_iff_ne.2 om
  have f2 : (op == 2) = false := beq_eq_false_iff_ne.2 om
  have f3 : (op == 3) = false := beq_eq_false_iff_ne.2 om
  have f4 : (op == 4) = false := beq_eq_false_iff_ne.2 om
  obtain ⟨i0, i1⟩ := hi
  obtain ⟨xa, hxa⟩ : ∃ x, x = d.h.regs.getD k1 0 := ⟨_, rfl⟩
  obtain ⟨xb, hxb⟩ : ∃ x, x = d.h.regs.getD k2 0 := ⟨_, rfl⟩
  obtain ⟨xn, hxn⟩ : ∃ x, x = imm % 4294967296 := ⟨_, rfl⟩
  obtain ⟨pc, hpc⟩ : ∃ x, x = d.h.pc := ⟨_, rfl⟩
  have era : d.h.reg (k1 : Int) = xa := by rw [hxa]; rfl
  have erb : d.h.reg (k2 : Int) = xb := by rw [hxb]; rfl
  have ua : U32 xa := by rw [← era]; exact reg_u wf.h _
  have ub : U32 xb := by rw [← erb]; exact reg_u wf.h _
  have un : U32 xn := by rw [hxn]; exact mod_lo _
  have up : U32 pc := by rw [hpc]; exact wf.h.pc
  have e : doS ⟨op, kd, k1, k2, imm⟩ d = (d.set kd (alu op xa xb)).setPc ((pc + 4) % 4294967296) := by
    unfold doS
    dsimp only
    rw [era, erb, ← hxn, ← hpc]
    rw [if_neg om, if_neg om, if_neg om, if_neg om, if_neg om, if_neg om, if_neg om, if_neg om, if_pos om]
  rw [e]
  clear e
  have HAl := lI (fun W => alu_any op xa xb W ua.1 ua.2 ub.1 ub.2)
  have HALU := lI (alu_lo op xa xb ua ub)
  generalize alu op xa xb = xl at *
  have hne := h.hbl
  have HA := lI ua
  have HB := lI ub
  have HN := lI un
  have HU := lI up
  obtain ⟨w1, hw1⟩ : ∃ w1, w1 = w.alloc (.cells #[.int .i64 op, .int .i64 kd, .int .i64 k1, .int .i64 k2, .int .i32 imm] 110) := ⟨_, rfl⟩
  have H1 : Hid (CoreAt cp hb ho vm 58 w1 d) := lI zC
  have G1 : Hid (Cgo cp hb ho vm 58 w w1) := lI zB
  have hbx : cp < w.heap.size := h.lt
  have HX : Hid (w1.heap[w.heap.size]? = some (.cells #[.int .i64 op, .int .i64 kd, .int .i64 k1, .int .i64 k2, .int .i32 imm] 110 (0, 0))) := lI zJ
  have q0 : (w1).cell? ⟨w.heap.size, 0, none⟩ = some (.int .i64 op) := by rw [hw1]; go_cell
  have q1 : (w1).cell? ⟨w.heap.size, 1, none⟩ = some (.int .i64 kd) := by rw [hw1]; go_cell
  have q2 : (w1).cell? ⟨w.heap.size, 2, none⟩ = some (.int .i64 k1) := by rw [hw1]; go_cell
  have q3 : (w1).cell? ⟨w.heap.size, 3, none⟩ = some (.int .i64 k2) := by rw [hw1]; go_cell
  have q4 : (w1).cell? ⟨w.heap.size, 4, none⟩ = some (.int .i32 imm) := by rw [hw1]; go_cell
  have HW1 := lI hw1
  clear hw1 h
  have hp := H1.out.ptr
  have hca := H1.out.hart.get (hlist_reg wf.h k1 h1)
  have hcb := H1.out.hart.get (hlist_reg wf.h k2 h2)
  have hc32 := H1.out.hart.get (hlist_pc wf.h)
  rw [← hxa] at hca
  rw [← hxb] at hcb
  rw [← hpc] at hc32
  have HPC := lI hpc
  have HIM := lI hxn
  clear hxa hxb era erb hpc ua ub un up hxn
  obtain ⟨b1, b2⟩ := HU.out
  have j1 : (k1 : Int) < 32 := om
  have j2 : (k2 : Int) < 32 := om
  go_enter Try.func48, Try.ntmps48
  go_upto_region 1 with (fail)
  rw [← HW1.out]
  go_quiet (fail)
  rw [← HIM.out]
  clear hca hcb
  have KP : Hid (∀ wx w2, wx.heap = w1.heap → Cgo cp hb ho vm 58 wx w2 → w2.cell? ⟨w.heap.size, 1, none⟩ = some (.int .i64 kd)) := lI (fun wx w2 eh hg =>
    have hsz : wx.heap.size = w1.heap.size := by rw [eh]
    (World.cell?_of_block (w := w1) ((hg.block w.heap.size (by have := lt_of_cell q1; rw [hsz]; exact this) (by have := H1.out.hbl; omega) (fun e => by have := H1.out.vm_lt e; omega) (.inr ⟨hbx, fun cs fr e => by rw [eh, HX.out] at e; injection e with e; injection e with e1 e2; exact absurd e2 zN⟩)).trans (by rw [eh]))).trans q1)
  have PK : Hid (∀ r x w2, CoreAt cp hb ho vm 58 w2 (d.set r x) → U32 x → w2.cell? ⟨hb, ho + 32, none⟩ = some (.int .u32 pc)) := lI (fun r x w2 hc ux => by
    have := hc.hart.get (hlist_pc (wf.set r x ux).h)
    rw [this, HPC.out]
    unfold CoreD.set Hart.setReg
    split <;> rfl)
  go_upto_region 28 with (fail)
  go_region_held3 (fun w' => w'.cell? ⟨w.heap.size, 1, none⟩ = some (.int .i64 kd) ∧ w'.cell? ⟨cp, 0, none⟩ = some (.pointer (some ⟨hb, ho, none⟩)) ∧ w'.cell? ⟨hb, ho + 32, none⟩ = some (.int .u32 pc))
    (first | exact ⟨q1, hp, hc32⟩ | exact ⟨p1, p2, p3⟩)
    ((first | (go_at_call 73; refine (HAl.out _).mono ?_; rintro e w2 ⟨rfl, nn, rfl⟩) | (go_at_call 70; (try rw [IntKind.wrap_u32]); refine (set_any (H1.out.below (by repeat (first | exact Below.refl _ _ | refine below_drewN ?_ _ | refine Below.drew ?_))) wf.h kd hd _).mono ?_; rintro e w2 ⟨rfl, hc, hg⟩; have p1 := KP.out _ w2 zE hg; have p2 := hc.ptr; have p3 := PK.out _ _ w2 hc (HALU.out))))
  have HG : Hid (Cgo cp hb ho vm 58 w w2) := lI ((G1.out.drewN _).trans hg)
  have wf2 := (wf.set kd _ (HALU.out)).h
  clear hg q0 q1 q2 q3 q4 p1 p2 p3
  clear hp hc32
  have hp := hc.ptr
  have h32 := hc.hart.get (hlist_pc wf2)
  have f32 := hc.hfz (ho + 32)
  have HC := lI hc
  clear hc
  go_wp2_with fail
  go_end0
  exact ⟨rfl, HC.out.setHart 32 _ _ (hlist_setPc wf2.len _) zT, HG.out.trans (Cgo.setHart _ 32 om _)⟩
theorem do_alun (h : CoreAt cp hb ho vm 58 w d) (wf : d.Wf) (hlen : d.out.length < 1099511627776) (op : Int) (kd k1 k2 : Nat) (imm : Int) (hop : 19 ≤ op ∧ op ≤ 27) (hd : kd < 32) (h1 : k1 < 32) (h2 : k2 < 32) (hi : -2147483648 ≤ imm ∧ imm ≤ 2147483647) :
    Calls Try.prog 48 #[.pointer (some ⟨cp, 0, none⟩), .agg #[.int .i64 op, .int .i64 kd, .int .i64 k1, .int .i64 k2, .int .i32 imm]] w fun e w' => e = .returned (.tuple #[]) ∧ CoreAt cp hb ho vm 58 w' (doS ⟨op, kd, k1, k2, imm⟩ d) ∧ Cgo cp hb ho vm 58 w w' := by
  obtain ⟨o0, o1⟩ := hop
  have f1 : (op == 1) = false := beq_eq_false_iff_ne.2 om
  have f2 : (op == 2) = false := beq_eq_false_iff_ne.2 om
  have f3 : (op == 3) = false := beq_eq_false_iff_ne.2 om
  have f4 : (op == 4) = false := beq_eq_false_iff_ne.2 om
  obtain ⟨i0, i1⟩ := hi
  obtain ⟨xa, hxa⟩ : ∃ x, x = d.h.regs.getD k1 0 := ⟨_, rfl⟩
  obtain ⟨xb, hxb⟩ : ∃ x, x = d.h.regs.getD k2 0 := ⟨_, rfl⟩
  obtain ⟨xn, hxn⟩ : ∃ x, x = imm % 4294967296 := ⟨_, rfl⟩
  obtain ⟨pc, hpc⟩ : ∃ x, x = d.h.pc := ⟨_, rfl⟩
  have era : d.h.reg (k1 : Int) = xa := by rw [hxa]; rfl
  have erb : d.h.reg (k2 : Int) = xb := by rw [hxb]; rfl
  have ua : U32 xa := by rw [← era]; exact reg_u wf.h _
  have ub : U32 xb := by rw [← erb]; exact reg_u wf.h _
  have un : U32 xn := by rw [hxn]; exact mod_lo _
  have up : U32 pc := by rw [hpc]; exact wf.h.pc
  have e : doS ⟨op, kd, k1, k2, imm⟩ d = (d.set kd (alu (immOp op) xa xn)).setPc ((pc + 4) % 4294967296) := by
    unfold doS
    dsimp only
    rw [era, erb, ← hxn, ← hpc]
    rw [if_neg om, if_neg om, if_neg om, if_neg om, if_neg om, if_neg om, if_neg om, if_pos om]
  rw [e]
  clear e
  have HAl := lI (fun W => alu_any (immOp op) xa xn W ua.1 ua.2 un.1 un.2)
  have HALU := lI (alu_lo (immOp op) xa xn ua un)
  generalize alu (immOp op) xa xn = xl at *
  have hne := h.hbl
  have HA := lI ua
  have HB := lI ub
  have HN := lI un
  have HU := lI up
  obtain ⟨w1, hw1⟩ : ∃ w1, w1 = w.alloc (.cells #[.int .i64 op, .int .i64 kd, .int .i64 k1, .int .i64 k2, .int .i32 imm] 110) := ⟨_, rfl⟩
  have H1 : Hid (CoreAt cp hb ho vm 58 w1 d) := lI zC
  have G1 : Hid (Cgo cp hb ho vm 58 w w1) := lI zB
  have hbx : cp < w.heap.size := h.lt
  have HX : Hid (w1.heap[w.heap.size]? = some (.cells #[.int .i64 op, .int .i64 kd, .int .i64 k1, .int .i64 k2, .int .i32 imm] 110 (0, 0))) := lI zJ
  have q0 : (w1).cell? ⟨w.heap.size, 0, none⟩ = some (.int .i64 op) := by rw [hw1]; go_cell
  have q1 : (w1).cell? ⟨w.heap.size, 1, none⟩ = some (.int .i64 kd) := by rw [hw1]; go_cell
  have q2 : (w1).cell? ⟨w.heap.size, 2, none⟩ = some (.int .i64 k1) := by rw [hw1]; go_cell
  have q3 : (w1).cell? ⟨w.heap.size, 3, none⟩ = some (.int .i64 k2) := by rw [hw1]; go_cell
  have q4 : (w1).cell? ⟨w.heap.size, 4, none⟩ = some (.int .i32 imm) := by rw [hw1]; go_cell
  have HW1 := lI hw1
  clear hw1 h
  have hp := H1.out.ptr
  have hca := H1.out.hart.get (hlist_reg wf.h k1 h1)
  have hcb := H1.out.hart.get (hlist_reg wf.h k2 h2)
  have hc32 := H1.out.hart.get (hlist_pc wf.h)
  rw [← hxa] at hca
  rw [← hxb] at hcb
  rw [← hpc] at hc32
  have HPC := lI hpc
  have HIM := lI hxn
  clear hxa hxb era erb hpc ua ub un up hxn
  obtain ⟨b1, b2⟩ := HU.out
  have j1 : (k1 : Int) < 32 := om
  have j2 : (k2 : Int) < 32 := om
  go_enter Try.func48, Try.ntmps48
  go_upto_region 1 with (fail)
  rw [← HW1.out]
  go_quiet (fail)
  rw [← HIM.out]
  clear hca hcb
  have KP : Hid (∀ wx w2, wx.heap = w1.heap → Cgo cp hb ho vm 58 wx w2 → w2.cell? ⟨w.heap.size, 1, none⟩ = some (.int .i64 kd)) := lI (fun wx w2 eh hg =>
    have hsz : wx.heap.size = w1.heap.size := by rw [eh]
    (World.cell?_of_block (w := w1) ((hg.block w.heap.size (by have := lt_of_cell q1; rw [hsz]; exact this) (by have := H1.out.hbl; omega) (fun e => by have := H1.out.vm_lt e; omega) (.inr ⟨hbx, fun cs fr e => by rw [eh, HX.out] at e; injection e with e; injection e with e1 e2; exact absurd e2 zN⟩)).trans (by rw [eh]))).trans q1)
  have PK : Hid (∀ r x w2, CoreAt cp hb ho vm 58 w2 (d.set r x) → U32 x → w2.cell? ⟨hb, ho + 32, none⟩ = some (.int .u32 pc)) := lI (fun r x w2 hc ux => by
    have := hc.hart.get (hlist_pc (wf.set r x ux).h)
    rw [this, HPC.out]
    unfold CoreD.set Hart.setReg
    split <;> rfl)
  go_upto_region 26 with (fail)
  go_region_held3 (fun w' => w'.cell? ⟨w.heap.size, 1, none⟩ = some (.int .i64 kd) ∧ w'.cell? ⟨cp, 0, none⟩ = some (.pointer (some ⟨hb, ho, none⟩)) ∧ w'.cell? ⟨hb, ho + 32, none⟩ = some (.int .u32 pc))
    (first | exact ⟨q1, hp, hc32⟩ | exact ⟨p1, p2, p3⟩)
    ((first | (go_at_call 73; refine (HAl.out _).mono ?_; rintro e w2 ⟨rfl, nn, rfl⟩) | (go_at_call 74; refine (imm_any op _ ⟨o0, o1⟩).mono ?_; rintro e w2 ⟨rfl, rfl⟩) | (go_at_call 70; (try rw [IntKind.wrap_u32]); refine (set_any (H1.out.below (by repeat (first | exact Below.refl _ _ | refine below_drewN ?_ _ | refine Below.drew ?_))) wf.h kd hd _).mono ?_; rintro e w2 ⟨rfl, hc, hg⟩; have p1 := KP.out _ w2 zE hg; have p2 := hc.ptr; have p3 := PK.out _ _ w2 hc (HALU.out))))
  have HG : Hid (Cgo cp hb ho vm 58 w w2) := lI ((G1.out.drewN _).trans hg)
  have wf2 := (wf.set kd _ (HALU.out)).h
  clear hg q0 q1 q2 q3 q4 p1 p2 p3
  clear hp hc32
  have hp := hc.ptr
  have h32 := hc.hart.get (hlist_pc wf2)
  have f32 := hc.hfz (ho + 32)
  have HC := lI hc
  clear hc
  go_wp2_with fail
  go_end0
  exact ⟨rfl, HC.out.setHart 32 _ _ (hlist_setPc wf2.len _) zT, HG.out.trans (Cgo.setHart _ 32 om _)⟩
end
section
variable {cp hb ho : Nat} {vm : Value} {d : CoreD} {w : World}
theorem do_any (h : CoreAt cp hb ho vm 58 w d) (wf : d.Wf) (hlen : d.out.length < 1099511627776) (i : InsD) (hop : 1 ≤ i.op ∧ i.op ≤ 59) (hr : 0 ≤ i.rd ∧ i.rd ≤ 31) (h1 : 0 ≤ i.rs1 ∧ i.rs1 ≤ 31) (h2 : 0 ≤ i.rs2 ∧ i.rs2 ≤ 31) (hi : I32 i.imm) :
    Calls Try.prog 48 #[.pointer (some ⟨cp, 0, none⟩), .agg (icells i)] w fun e w' => e = .returned (.tuple #[]) ∧ CoreAt cp hb ho vm 58 w' (doS i d) ∧ Cgo cp hb ho vm 58 w w' := by
  obtain ⟨op, rd, rs1, rs2, imm⟩ := i
  obtain ⟨kd, rfl⟩ := Int.eq_ofNat_of_zero_le hr.1
  obtain ⟨k1, rfl⟩ := Int.eq_ofNat_of_zero_le h1.1
  obtain ⟨k2, rfl⟩ := Int.eq_ofNat_of_zero_le h2.1
  have g0 : kd < 32 := by have := hr.2; simp only at this; omega
  have g1 : k1 < 32 := by have := h1.2; simp only at this; omega
  have g2 : k2 < 32 := by have := h2.2; simp only at this; omega
  unfold I32 at hi
  have hc : op = 1 ∨ op = 2 ∨ op = 3 ∨ op = 4 ∨ (5 ≤ op ∧ op ≤ 10) ∨ (11 ≤ op ∧ op ≤ 15) ∨ (16 ≤ op ∧ op ≤ 18) ∨ (19 ≤ op ∧ op ≤ 27) ∨ (28 ≤ op ∧ op ≤ 45) ∨ (46 ≤ op ∧ op ≤ 56) ∨ op = 57 ∨ op = 58 ∨ op = 59 := by obtain ⟨x, y⟩ := hop; simp only at x y; omega
  rcases hc with rfl | rfl | rfl | rfl | hc | hc | hc | hc | hc | hc | rfl | rfl | rfl
  · exact do_lui h wf hlen kd k1 k2 imm g0 g1 g2 hi
  · exact do_auipc h wf hlen kd k1 k2 imm g0 g1 g2 hi
  · exact do_jal h wf hlen kd k1 k2 imm g0 g1 g2 hi
  · exact do_jalr h wf hlen kd k1 k2 imm g0 g1 g2 hi
  · cases hq : holds op (d.h.reg k1) (d.h.reg k2) with
    | true => exact do_branch_true h wf hlen op kd k1 k2 imm hc g0 g1 g2 hq hi
    | false => exact do_branch_false h wf hlen op kd k1 k2 imm hc g0 g1 g2 hq hi
  · cases hq : mLoadOk d.m op ((d.h.reg k1 + imm % 4294967296) % 4294967296) with
    | true => exact do_load_yes h wf hlen op kd k1 k2 imm hc g0 g1 g2 hq hi
    | false => exact do_load_no h wf hlen op kd k1 k2 imm hc g0 g1 g2 hq hi
  · cases hq : mStoreOk d.m op ((d.h.reg k1 + imm % 4294967296) % 4294967296) with
    | true => exact do_store_yes h wf hlen op kd k1 k2 imm hc g0 g1 g2 hq hi
    | false => exact do_store_no h wf hlen op kd k1 k2 imm hc g0 g1 g2 hq hi
  · exact do_alun h wf hlen op kd k1 k2 imm hc g0 g1 g2 hi
  · exact do_alu h wf hlen op kd k1 k2 imm hc g0 g1 g2 hi
  · cases hq : (atomS d op (d.h.reg k1) (d.h.reg k2)).2.2 with
    | true => exact do_atom_yes h wf hlen op kd k1 k2 imm hc g0 g1 g2 hq hi
    | false => exact do_atom_no h wf hlen op kd k1 k2 imm hc g0 g1 g2 hq hi
  · exact do_fence h wf hlen kd k1 k2 imm g0 g1 g2 hi
  · cases hq : (callS d).2 with
    | true => exact do_call_yes h wf hlen kd k1 k2 imm g0 g1 g2 hq hi
    | false => exact do_call_no h wf hlen kd k1 k2 imm g0 g1 g2 hq hi
  · exact do_break h wf hlen kd k1 k2 imm g0 g1 g2 hi
end
end Go.Proofs.Ytlfnddmncbkjaac.W
