import Derived.Test.YtlfnddmncbkjaacZGD
import Derived.Test.YtlfnddmncbkjaacZWDecode2
import Derived.Test.YtlfnddmncbkjaacZMA
set_option linter.unusedVariables false
set_option linter.unusedSimpArgs false
set_option maxRecDepth 100000
set_option maxHeartbeats 4000000
namespace Go.Proofs.Ytlfnddmncbkjaac.W
open Go.RowKit Fb
theorem _root_.Go.Proofs.Ytlfnddmncbkjaac.Fb.DidOf.setState {w : World} {d : DidD} {c : CoreD} (h : DidOf w d c) (x : Int) : DidOf w { d with h := { d.h with state := x } } { c with h := { c.h with state := x } } := ⟨by show ({ d.h with state := x } : Hart) = { c.h with state := x }; rw [h.h], h.m, h.o, h.fr, h.many⟩
theorem step4_ecall0 (h : Hart) (wf : h.Wf) (v : Value) (l : List Int) (w : World) (hv : Ints .u8 w v l) (hb : Bytes l) (hl : l.length ≤ 4096) (hok : mLoadOk l 13 h.pc = true) (kd k1 k2 : Nat) (imm : Int) (hk : kd < 32) (h1 : k1 < 32) (h2 : k2 < 32) (hi : -2147483648 ≤ imm ∧ imm ≤ 2147483647) (hdec : dec (mLoad l 13 h.pc) = some ⟨58, kd, k1, k2, imm⟩) (hq : h.reg 17 = 0) :
    Calls Try.prog 34 #[.agg (hcells h), v] w fun e w' => ∃ d', e = .returned (.agg (dcells d')) ∧ DidOf w' d' (doS ⟨58, kd, k1, k2, imm⟩ (⟨h, l, [], 0, 0⟩ : CoreD)) ∧ (d'.vm = v ∨ ∀ q, d'.vm.ownBlock = some q → w.heap.size ≤ q) ∧ (∀ q, d'.vo.ownBlock = some q → w.heap.size ≤ q) ∧ Below w.heap.size w w' := by
  obtain ⟨i0, i1⟩ := hi
  obtain ⟨xa, hxa⟩ : ∃ x, x = h.regs.getD k1 0 := ⟨_, rfl⟩
  obtain ⟨xb, hxb⟩ : ∃ x, x = h.regs.getD k2 0 := ⟨_, rfl⟩
  obtain ⟨xn, hxn⟩ : ∃ x, x = imm % 4294967296 := ⟨_, rfl⟩
  obtain ⟨pc, hpcv⟩ : ∃ x, x = h.pc := ⟨_, rfl⟩
  have era : h.reg (k1 : Int) = xa := by rw [hxa]; rfl
  have erb : h.reg (k2 : Int) = xb := by rw [hxb]; rfl
  have ua : U32 xa := by rw [← era]; exact reg_u wf _
  have ub : U32 xb := by rw [← erb]; exact reg_u wf _
  have un : U32 xn := by rw [hxn]; exact mod_lo _
  have up : U32 pc := by rw [hpcv]; exact wf.pc
  obtain ⟨c0, hc0⟩ : ∃ c, c = (⟨h, l, [], 0, 0⟩ : CoreD) := ⟨_, rfl⟩
  have e : doS ⟨58, kd, k1, k2, imm⟩ (⟨h, l, [], 0, 0⟩ : CoreD) = { c0 with h := { c0.h with state := 1 } } := by
    rw [hc0]
    unfold doS
    dsimp only
    rw [era, erb, ← hxn, ← hpcv]
    rw [if_neg om, if_neg om, if_neg om, if_neg om, if_neg om, if_neg om, if_neg om, if_neg om, if_neg om, if_neg om, if_pos rfl]
    rw [show callS (⟨h, l, [], 0, 0⟩ : CoreD) = ({ (⟨h, l, [], 0, 0⟩ : CoreD) with h := { ((⟨h, l, [], 0, 0⟩ : CoreD)).h with state := 1 } }, false) from if_pos hq, hpcv]; rfl
  rw [e]
  clear e
  have HC0 := lI hc0
  have HA := lI ua
  have HB := lI ub
  have HN := lI un
  have HU := lI up
  have HPC : Hid (h.pc = pc) := lI hpcv.symm
  have HOf : Hid (∀ W, Calls Try.prog 50 #[.int .i64 imm] W fun e w' => e = .returned (.int .u32 xn) ∧ W = w') := lI (fun W => by rw [hxn]; exact of1_any imm W om)
  have HS1 := lI (fun W => sum4_any pc 4 W up ⟨by decide, by decide⟩)
  have HS2 := lI (fun W => sum4_any xa xn W ua un)
  clear era erb ua ub un up hxn hc0 hpcv
  obtain ⟨ao, cap, hve, _⟩ := hv.open
  have HV := lI hv
  have wfc : ((⟨h, l, [], 0, 0⟩ : CoreD)).Wf := ⟨wf, hb, by simp, (⟨by decide, by decide⟩ : U32 0), (⟨by decide, by decide⟩ : U32 0), zM, by simp⟩
  obtain ⟨d0, hd0⟩ : ∃ d0, d0 = (⟨h, v, .slice none 0 0, 0, 0⟩ : DidD) := ⟨_, rfl⟩
  have d0_ok : d0.Ok := by rw [hd0]; exact ⟨wf.len, hv.one, rfl⟩
  have HBD := lI (fun W => build_did h wf.len v hv.one ao _ cap hve W)
  rw [← hd0] at HBD
  have hbox : At (w.alloc (.cells (hcells h) 67)) w.heap.size 0 (hlist h) := at_alloc w (hlist h) 67 (0, 0)
  have hsz : (Try.prog.info? 67).map (·.size) = some (hcells h).size := by rw [hcells_size wf]; kernel_rfl
  have HDO : Hid (∀ W, Ints .u8 W v l → DidOf W d0 c0) := lI (fun W hW => by rw [hd0, HC0.out]; exact ⟨rfl, hW, Sl.nil _ _, rfl, rfl⟩)
  have HD0E := lI hd0
  subst hve
  clear hv hd0
  go_enter Try.func34, Try.ntmps34
  go_upto_region 1 with (fail)
  show Code.wp _ _ _ _ ((w.alloc (.cells (hcells h) 67)).alloc (.cells (dcells did0) 88))
  have hb1 : At ((w.alloc (.cells (hcells h) 67)).alloc (.cells (dcells did0) 88)) w.heap.size 0 (hlist h) := hbox.below Fb.blw
  have hbz1 : Below w.heap.size w ((w.alloc (.cells (hcells h) 67)).alloc (.cells (dcells did0) 88)) := Fb.blw
  have hs1 : (((w.alloc (.cells (hcells h) 67)).alloc (.cells (dcells did0) 88))).heap.size = w.heap.size + 2 := by simp
  have hR1 := there_begin h (w := w) (tH := 67) (tD := 88)
  generalize ((w.alloc (.cells (hcells h) 67)).alloc (.cells (dcells did0) 88)) = w1 at *
  have HSZ1 := lI hs1
  clear hs1
  go_upto_region 2 with (first | (refine wpList_load_at rfl 67 _ rfl w.heap.size 0 rfl (hcells h) _ hb1 Try.underlying67 rfl hsz ?_) | (refine wpList_buildV rfl 88 _ rfl #[(0, .agg (hcells h)), (1, .slice ao l.length cap)] zD _ (HBD.out _) ?_) | (refine wpList_store_new rfl 88 _ _ rfl w1 _ (dcells d0) rfl rfl rfl (did_size d0_ok) zL (dlist_one d0_ok) ?_))
  have hs1 := HSZ1.out
  have hD := DBox.begin3 (w := w1) (tD := 88) (d := d0) hR1 om
  have hb2 := hb1.below (Below.alloc br (Nat.le_refl _) (.cells (dcells d0) 88))
  have hbz2 : Below w.heap.size w (w1.alloc (.cells (dcells d0) 88)) := hbz1.trans (Below.alloc br om _)
  have hs2 : (w1.alloc (.cells (dcells d0) 88)).heap.size = w.heap.size + 3 := by simp; omega
  rw [hs1] at hD
  have e12 : w1.heap.size = w.heap.size + 2 := hs1
  rw [e12]
  generalize w1.alloc (.cells (dcells d0) 88) = w2 at *
  have hpc := hb2.get (hlist_pc wf)
  simp only [Nat.zero_add] at hpc
  clear hb1 hbz1 hs1 hR1 e12
  have HL := lI (fun W hW => load3_any (.slice ao l.length cap) l 13 h.pc W hW wf.pc hb.getD)
  rw [hok] at HL
  clear hok
  have HDc := lI (fun W => decode2_any (mLoad l 13 h.pc) W (mLoad_u13 l h.pc wf.pc hb.getD))
  rw [hdec] at HDc
  simp only [Option.getD_some, Option.isSome_some, icells] at HDc
  go_upto_region 5 with (go_at_call 40; refine (HL.out _ (HV.out.below hbz2)).mono ?_; rintro e w3 ⟨rfl, rfl⟩)
  go_wp2_with fail
  refine (HDc.out _).mono ?_
  rintro e w3 ⟨rfl, hb3⟩
  obtain ⟨w4, hw4⟩ : ∃ w4, w4 = w3.alloc (.cells #[.int .i64 58, .int .i64 kd, .int .i64 k1, .int .i64 k2, .int .i32 imm] 110) := ⟨_, rfl⟩
  have hs3 := hb3.size
  have hB4 : Below w2.heap.size w2 w4 := by rw [hw4]; exact hb3.trans (Below.alloc br hs3 _)
  have hs4 : w4.heap.size = w3.heap.size + 1 := by rw [hw4]; simp
  have q0 : w4.cell? ⟨w3.heap.size, 0, none⟩ = some (.int .i64 58) := by rw [hw4]; go_cell
  have q1 : w4.cell? ⟨w3.heap.size, 1, none⟩ = some (.int .i64 kd) := by rw [hw4]; go_cell
  have q2 : w4.cell? ⟨w3.heap.size, 2, none⟩ = some (.int .i64 k1) := by rw [hw4]; go_cell
  have q3 : w4.cell? ⟨w3.heap.size, 3, none⟩ = some (.int .i64 k2) := by rw [hw4]; go_cell
  have q4 : w4.cell? ⟨w3.heap.size, 4, none⟩ = some (.int .i32 imm) := by rw [hw4]; go_cell
  have hh4 : At w4 w.heap.size 0 (hlist h) := hb2.below hB4
  have HD5 := lI ((hD.below om om hB4))
  have hra := hh4.get (hlist_reg wf k1 h1)
  have hrb := hh4.get (hlist_reg wf k2 h2)
  have hpc4 := hh4.get (hlist_pc wf)
  simp only [Nat.zero_add] at hra hrb hpc4
  rw [← hxa] at hra
  rw [← hxb] at hrb
  have hbz4 : Below w.heap.size w w4 := hbz2.trans (hB4.mono om)
  have HW4 := lI hw4
  clear hw4 hb2 hB4 hb3 hD hpc hbz2 hxa hxb
  have j1 : (k1 : Int) < 32 := om
  have j2 : (k2 : Int) < 32 := om
  go_upto_region 6 with (fail)
  rw [← HW4.out]
  rw [HPC.out] at hpc4
  go_upto_region 13 with (first | (go_at_call 50; refine (HOf.out _).mono ?_; rintro e w' ⟨rfl, rfl⟩) | (go_at_call 51; refine (HS1.out _).mono ?_; rintro e w' ⟨rfl, na, rfl⟩) | (go_at_call 51; refine (HS2.out _).mono ?_; rintro e w' ⟨rfl, nb, rfl⟩))
  have hpc5 : (w4.drewN (na + nb)).cell? ⟨w.heap.size, 32, none⟩ = some (.int .u32 pc) := hpc4
  have hh5 : At (w4.drewN (na + nb)) w.heap.size 0 (hlist h) := hh4
  have HD6 := lI (HD5.out.drewN (na + nb))
  have hbz : Below w.heap.size w (w4.drewN (na + nb)) := below_drewN hbz4 _
  have hsz5 : (w4.drewN (na + nb)).heap.size = w3.heap.size + 1 := hs4
  have p0 : (w4.drewN (na + nb)).cell? ⟨w3.heap.size, 0, none⟩ = some (.int .i64 58) := q0
  have p1 : (w4.drewN (na + nb)).cell? ⟨w3.heap.size, 1, none⟩ = some (.int .i64 kd) := q1
  have p2 : (w4.drewN (na + nb)).cell? ⟨w3.heap.size, 2, none⟩ = some (.int .i64 k1) := q2
  have p3 : (w4.drewN (na + nb)).cell? ⟨w3.heap.size, 3, none⟩ = some (.int .i64 k2) := q3
  have p4 : (w4.drewN (na + nb)).cell? ⟨w3.heap.size, 4, none⟩ = some (.int .i32 imm) := q4
  clear q0 q1 q2 q3 q4 hpc4 hh4 HD5 hra hrb hbz4 hs4
  generalize w4.drewN (na + nb) = w5 at *
  have HDD : Hid (∀ W, Below w.heap.size w W → DidOf W d0 c0) := lI (fun W hW => HDO.out W (HV.out.below hW))
  have HVM : Hid (d0.vm = .slice ao l.length cap ∧ d0.vo = .slice none 0 0) := lI zY
  have hbe := hbz
  have r17 := hh5.get (hlist_reg wf 17 zN)
  simp only [Nat.zero_add] at r17
  rw [show h.regs.getD 17 0 = 0 from hq] at r17
  go_upto_region 47 with (fail)
  clear r17 hpc5 hh5 p0 p1 p2 p3 p4
  have c35 := HD6.out.get (dlist_h (hlist_state' d0_ok.len))
  have f35 := HD6.out.frz 35
  obtain ⟨d9, hd9⟩ : ∃ d9, d9 = ({ d0 with h := { d0.h with state := 1 } } : DidD) := ⟨_, rfl⟩
  have d9_ok : d9.Ok := by rw [hd9]; exact ⟨d0_ok.len, d0_ok.m1, d0_ok.o1⟩
  have HD9 : Hid (DBox (w.heap.size + 2) (w.heap.size + 1) 88 (w5.setCell ⟨w.heap.size + 2, 35, none⟩ (.int .i64 1)) d9) := lI (by
    rw [hd9]
    exact HD6.out.set 35 (.int .i64 1) yO (dlist_setH (hlist_setState d0_ok.len 1) (by rw [hlist_len d0_ok.len]; omega)))
  have hbf := hbe.setCell (p := ⟨w.heap.size + 2, 35, none⟩) zK (.int .i64 1)
  have HD9E := lI hd9
  clear hd9
  go_upto_region 48 with (fail)
  have ht := HD9.out.there
  rw [← dcells_size d9_ok] at ht
  have hld := load_setCells (P := Try.prog) ht Try.underlying88 rfl (did_size d9_ok)
  go_wp2_with (first | (refine wpList_load_at rfl 88 _ rfl (w.heap.size + 2) 0 rfl (dcells d9) _ HD9.out.at_ Try.underlying88 rfl (did_size d9_ok) ?_) | (refine wpList_store_mid rfl 88 _ _ rfl (w.heap.size + 1) 0 (dcells d9) rfl rfl ht (did_size d9_ok) (dlist_all d9_ok) ?_))
  refine bodyPost_ret (results_c1 zE _ zE hld) rfl ⟨d9, rfl, ?_, .inl ?_, ?_, below_setCells om _ _ _ hbf⟩
  · rw [HD9E.out]
    have hW := below_setCells (b := w.heap.size + 1) om (dcells d9).toList 0 _ hbf
    rw [HD9E.out] at hW
    exact (HDD.out _ hW).setState _
  · rw [HD9E.out]; exact HVM.out.1
  · rw [HD9E.out]; intro q e; rw [show ({ d0 with h := { d0.h with state := 1 } } : DidD).vo = .slice none 0 0 from HVM.out.2] at e; cases e
theorem step4_ecall2 (h : Hart) (wf : h.Wf) (v : Value) (l : List Int) (w : World) (hv : Ints .u8 w v l) (hb : Bytes l) (hl : l.length ≤ 4096) (hok : mLoadOk l 13 h.pc = true) (kd k1 k2 : Nat) (imm : Int) (hk : kd < 32) (h1 : k1 < 32) (h2 : k2 < 32) (hi : -2147483648 ≤ imm ∧ imm ≤ 2147483647) (hdec : dec (mLoad l 13 h.pc) = some ⟨58, kd, k1, k2, imm⟩) (hq : ¬ h.reg 17 = 0 ∧ ¬ h.reg 17 = 1) :
    Calls Try.prog 34 #[.agg (hcells h), v] w fun e w' => ∃ d', e = .returned (.agg (dcells d')) ∧ DidOf w' d' (doS ⟨58, kd, k1, k2, imm⟩ (⟨h, l, [], 0, 0⟩ : CoreD)) ∧ (d'.vm = v ∨ ∀ q, d'.vm.ownBlock = some q → w.heap.size ≤ q) ∧ (∀ q, d'.vo.ownBlock = some q → w.heap.size ≤ q) ∧ Below w.heap.size w w' := by
  obtain ⟨i0, i1⟩ := hi
  obtain ⟨xa, hxa⟩ : ∃ x, x = h.regs.getD k1 0 := ⟨_, rfl⟩
  obtain ⟨xb, hxb⟩ : ∃ x, x = h.regs.getD k2 0 := ⟨_, rfl⟩
  obtain ⟨xn, hxn⟩ : ∃ x, x = imm % 4294967296 := ⟨_, rfl⟩
  obtain ⟨pc, hpcv⟩ : ∃ x, x = h.pc := ⟨_, rfl⟩
  have era : h.reg (k1 : Int) = xa := by rw [hxa]; rfl
  have erb : h.reg (k2 : Int) = xb := by rw [hxb]; rfl
  have ua : U32 xa := by rw [← era]; exact reg_u wf _
  have ub : U32 xb := by rw [← erb]; exact reg_u wf _
  have un : U32 xn := by rw [hxn]; exact mod_lo _
  have up : U32 pc := by rw [hpcv]; exact wf.pc
  obtain ⟨c0, hc0⟩ : ∃ c, c = (⟨h, l, [], 0, 0⟩ : CoreD) := ⟨_, rfl⟩
  have e : doS ⟨58, kd, k1, k2, imm⟩ (⟨h, l, [], 0, 0⟩ : CoreD) = c0.trap 5 := by
    rw [hc0]
    unfold doS
    dsimp only
    rw [era, erb, ← hxn, ← hpcv]
    rw [if_neg om, if_neg om, if_neg om, if_neg om, if_neg om, if_neg om, if_neg om, if_neg om, if_neg om, if_neg om, if_pos rfl]
    rw [show callS (⟨h, l, [], 0, 0⟩ : CoreD) = (CoreD.trap (⟨h, l, [], 0, 0⟩ : CoreD) 5, false) from (if_neg hq.1).trans (if_neg hq.2)]; rfl
  rw [e]
  clear e
  have HC0 := lI hc0
  have HA := lI ua
  have HB := lI ub
  have HN := lI un
  have HU := lI up
  have HPC : Hid (h.pc = pc) := lI hpcv.symm
  have HOf : Hid (∀ W, Calls Try.prog 50 #[.int .i64 imm] W fun e w' => e = .returned (.int .u32 xn) ∧ W = w') := lI (fun W => by rw [hxn]; exact of1_any imm W om)
  have HS1 := lI (fun W => sum4_any pc 4 W up ⟨by decide, by decide⟩)
  have HS2 := lI (fun W => sum4_any xa xn W ua un)
  clear era erb ua ub un up hxn hc0 hpcv
  obtain ⟨ao, cap, hve, _⟩ := hv.open
  have HV := lI hv
  have wfc : ((⟨h, l, [], 0, 0⟩ : CoreD)).Wf := ⟨wf, hb, by simp, (⟨by decide, by decide⟩ : U32 0), (⟨by decide, by decide⟩ : U32 0), zM, by simp⟩
  obtain ⟨d0, hd0⟩ : ∃ d0, d0 = (⟨h, v, .slice none 0 0, 0, 0⟩ : DidD) := ⟨_, rfl⟩
  have d0_ok : d0.Ok := by rw [hd0]; exact ⟨wf.len, hv.one, rfl⟩
  have HBD := lI (fun W => build_did h wf.len v hv.one ao _ cap hve W)
  rw [← hd0] at HBD
  have hbox : At (w.alloc (.cells (hcells h) 67)) w.heap.size 0 (hlist h) := at_alloc w (hlist h) 67 (0, 0)
  have hsz : (Try.prog.info? 67).map (·.size) = some (hcells h).size := by rw [hcells_size wf]; kernel_rfl
  have HDO : Hid (∀ W, Ints .u8 W v l → DidOf W d0 c0) := lI (fun W hW => by rw [hd0, HC0.out]; exact ⟨rfl, hW, Sl.nil _ _, rfl, rfl⟩)
  have HD0E := lI hd0
  subst hve
  clear hv hd0
  go_enter Try.func34, Try.ntmps34
  go_upto_region 1 with (fail)
  show Code.wp _ _ _ _ ((w.alloc (.cells (hcells h) 67)).alloc (.cells (dcells did0) 88))
  have hb1 : At ((w.alloc (.cells (hcells h) 67)).alloc (.cells (dcells did0) 88)) w.heap.size 0 (hlist h) := hbox.below Fb.blw
  have hbz1 : Below w.heap.size w ((w.alloc (.cells (hcells h) 67)).alloc (.cells (dcells did0) 88)) := Fb.blw
  have hs1 : (((w.alloc (.cells (hcells h) 67)).alloc (.cells (dcells did0) 88))).heap.size = w.heap.size + 2 := by simp
  have hR1 := there_begin h (w := w) (tH := 67) (tD := 88)
  generalize ((w.alloc (.cells (hcells h) 67)).alloc (.cells (dcells did0) 88)) = w1 at *
  have HSZ1 := lI hs1
  clear hs1
  go_upto_region 2 with (first | (refine wpList_load_at rfl 67 _ rfl w.heap.size 0 rfl (hcells h) _ hb1 Try.underlying67 rfl hsz ?_) | (refine wpList_buildV rfl 88 _ rfl #[(0, .agg (hcells h)), (1, .slice ao l.length cap)] zD _ (HBD.out _) ?_) | (refine wpList_store_new rfl 88 _ _ rfl w1 _ (dcells d0) rfl rfl rfl (did_size d0_ok) zL (dlist_one d0_ok) ?_))
  have hs1 := HSZ1.out
  have hD := DBox.begin3 (w := w1) (tD := 88) (d := d0) hR1 om
  have hb2 := hb1.below (Below.alloc br (Nat.le_refl _) (.cells (dcells d0) 88))
  have hbz2 : Below w.heap.size w (w1.alloc (.cells (dcells d0) 88)) := hbz1.trans (Below.alloc br om _)
  have hs2 : (w1.alloc (.cells (dcells d0) 88)).heap.size = w.heap.size + 3 := by simp; omega
  rw [hs1] at hD
  have e12 : w1.heap.size = w.heap.size + 2 := hs1
  rw [e12]
  generalize w1.alloc (.cells (dcells d0) 88) = w2 at *
  have hpc := hb2.get (hlist_pc wf)
  simp only [Nat.zero_add] at hpc
  clear hb1 hbz1 hs1 hR1 e12
  have HL := lI (fun W hW => load3_any (.slice ao l.length cap) l 13 h.pc W hW wf.pc hb.getD)
  rw [hok] at HL
  clear hok
  have HDc := lI (fun W => decode2_any (mLoad l 13 h.pc) W (mLoad_u13 l h.pc wf.pc hb.getD))
  rw [hdec] at HDc
  simp only [Option.getD_some, Option.isSome_some, icells] at HDc
  go_upto_region 5 with (go_at_call 40; refine (HL.out _ (HV.out.below hbz2)).mono ?_; rintro e w3 ⟨rfl, rfl⟩)
  go_wp2_with fail
  refine (HDc.out _).mono ?_
  rintro e w3 ⟨rfl, hb3⟩
  obtain ⟨w4, hw4⟩ : ∃ w4, w4 = w3.alloc (.cells #[.int .i64 58, .int .i64 kd, .int .i64 k1, .int .i64 k2, .int .i32 imm] 110) := ⟨_, rfl⟩
  have hs3 := hb3.size
  have hB4 : Below w2.heap.size w2 w4 := by rw [hw4]; exact hb3.trans (Below.alloc br hs3 _)
  have hs4 : w4.heap.size = w3.heap.size + 1 := by rw [hw4]; simp
  have q0 : w4.cell? ⟨w3.heap.size, 0, none⟩ = some (.int .i64 58) := by rw [hw4]; go_cell
  have q1 : w4.cell? ⟨w3.heap.size, 1, none⟩ = some (.int .i64 kd) := by rw [hw4]; go_cell
  have q2 : w4.cell? ⟨w3.heap.size, 2, none⟩ = some (.int .i64 k1) := by rw [hw4]; go_cell
  have q3 : w4.cell? ⟨w3.heap.size, 3, none⟩ = some (.int .i64 k2) := by rw [hw4]; go_cell
  have q4 : w4.cell? ⟨w3.heap.size, 4, none⟩ = some (.int .i32 imm) := by rw [hw4]; go_cell
  have hh4 : At w4 w.heap.size 0 (hlist h) := hb2.below hB4
  have HD5 := lI ((hD.below om om hB4))
  have hra := hh4.get (hlist_reg wf k1 h1)
  have hrb := hh4.get (hlist_reg wf k2 h2)
  have hpc4 := hh4.get (hlist_pc wf)
  simp only [Nat.zero_add] at hra hrb hpc4
  rw [← hxa] at hra
  rw [← hxb] at hrb
  have hbz4 : Below w.heap.size w w4 := hbz2.trans (hB4.mono om)
  have HW4 := lI hw4
  clear hw4 hb2 hB4 hb3 hD hpc hbz2 hxa hxb
  have j1 : (k1 : Int) < 32 := om
  have j2 : (k2 : Int) < 32 := om
  go_upto_region 6 with (fail)
  rw [← HW4.out]
  rw [HPC.out] at hpc4
  go_upto_region 13 with (first | (go_at_call 50; refine (HOf.out _).mono ?_; rintro e w' ⟨rfl, rfl⟩) | (go_at_call 51; refine (HS1.out _).mono ?_; rintro e w' ⟨rfl, na, rfl⟩) | (go_at_call 51; refine (HS2.out _).mono ?_; rintro e w' ⟨rfl, nb, rfl⟩))
  have hpc5 : (w4.drewN (na + nb)).cell? ⟨w.heap.size, 32, none⟩ = some (.int .u32 pc) := hpc4
  have hh5 : At (w4.drewN (na + nb)) w.heap.size 0 (hlist h) := hh4
  have HD6 := lI (HD5.out.drewN (na + nb))
  have hbz : Below w.heap.size w (w4.drewN (na + nb)) := below_drewN hbz4 _
  have hsz5 : (w4.drewN (na + nb)).heap.size = w3.heap.size + 1 := hs4
  have p0 : (w4.drewN (na + nb)).cell? ⟨w3.heap.size, 0, none⟩ = some (.int .i64 58) := q0
  have p1 : (w4.drewN (na + nb)).cell? ⟨w3.heap.size, 1, none⟩ = some (.int .i64 kd) := q1
  have p2 : (w4.drewN (na + nb)).cell? ⟨w3.heap.size, 2, none⟩ = some (.int .i64 k1) := q2
  have p3 : (w4.drewN (na + nb)).cell? ⟨w3.heap.size, 3, none⟩ = some (.int .i64 k2) := q3
  have p4 : (w4.drewN (na + nb)).cell? ⟨w3.heap.size, 4, none⟩ = some (.int .i32 imm) := q4
  clear q0 q1 q2 q3 q4 hpc4 hh4 HD5 hra hrb hbz4 hs4
  generalize w4.drewN (na + nb) = w5 at *
  have HDD : Hid (∀ W, Below w.heap.size w W → DidOf W d0 c0) := lI (fun W hW => HDO.out W (HV.out.below hW))
  have HVM : Hid (d0.vm = .slice ao l.length cap ∧ d0.vo = .slice none 0 0) := lI zY
  have hbe := hbz
  have r17 := hh5.get (hlist_reg wf 17 zN)
  simp only [Nat.zero_add] at r17
  obtain ⟨x17, hx17⟩ : ∃ x, x = h.regs.getD 17 0 := ⟨_, rfl⟩
  have g0 : (x17 == 0) = false := beq_eq_false_iff_ne.2 (by rw [hx17]; exact hq.1)
  have g1 : (x17 == 1) = false := beq_eq_false_iff_ne.2 (by rw [hx17]; exact hq.2)
  rw [← hx17] at r17
  clear hx17 hq
  go_upto_region 50 with (fail)
  go_wp2_with (first | (refine wpList_load_at rfl 88 _ rfl (w.heap.size + 2) 0 rfl (dcells d0) _ HD6.out.at_ Try.underlying88 rfl (did_size d0_ok) ?_))
  refine (trap4_any d0 d0_ok 5 _).mono ?_
  rintro e w8 ⟨rfl, hb8⟩
  have hs8 := hb8.size
  have HD8 := lI (HD6.out.below om om hb8)
  have dt_ok : (d0.trap 5).Ok := ⟨d0_ok.len, d0_ok.m1, d0_ok.o1⟩
  have hbt := hbz.trans (hb8.mono om)
  clear hb8
  have ht : (w8).there (w.heap.size + 1) 0 (dcells (d0.trap 5)).size := by rw [dcells_size dt_ok]; exact HD8.out.there
  have hld := load_setCells (P := Try.prog) ht Try.underlying88 rfl (did_size dt_ok)
  go_wp2_with (first | (refine wpList_store_mid rfl 88 _ _ rfl (w.heap.size + 1) 0 (dcells (d0.trap 5)) rfl rfl ht (did_size dt_ok) (dlist_all dt_ok) ?_))
  refine bodyPost_ret (results_c1 zE _ zE hld) rfl ⟨_, rfl, (HDD.out _ (below_setCells om _ _ _ hbt)).trap 5, .inl ?_, ?_, below_setCells om _ _ _ hbt⟩
  · exact HVM.out.1
  · intro q e; rw [show (d0.trap 5).vo = .slice none 0 0 from HVM.out.2] at e; cases e
theorem step4_ecall1 (h : Hart) (wf : h.Wf) (v : Value) (l : List Int) (w : World) (hv : Ints .u8 w v l) (hb : Bytes l) (hl : l.length ≤ 4096) (hok : mLoadOk l 13 h.pc = true) (kd k1 k2 : Nat) (imm : Int) (hk : kd < 32) (h1 : k1 < 32) (h2 : k2 < 32) (hi : -2147483648 ≤ imm ∧ imm ≤ 2147483647) (hdec : dec (mLoad l 13 h.pc) = some ⟨58, kd, k1, k2, imm⟩) (hq : h.reg 17 = 1) :
    Calls Try.prog 34 #[.agg (hcells h), v] w fun e w' => ∃ d', e = .returned (.agg (dcells d')) ∧ DidOf w' d' (doS ⟨58, kd, k1, k2, imm⟩ (⟨h, l, [], 0, 0⟩ : CoreD)) ∧ (d'.vm = v ∨ ∀ q, d'.vm.ownBlock = some q → w.heap.size ≤ q) ∧ (∀ q, d'.vo.ownBlock = some q → w.heap.size ≤ q) ∧ Below w.heap.size w w' := by
  obtain ⟨i0, i1⟩ := hi
  obtain ⟨xa, hxa⟩ : ∃ x, x = h.regs.getD k1 0 := ⟨_, rfl⟩
  obtain ⟨xb, hxb⟩ : ∃ x, x = h.regs.getD k2 0 := ⟨_, rfl⟩
  obtain ⟨xn, hxn⟩ : ∃ x, x = imm % 4294967296 := ⟨_, rfl⟩
  obtain ⟨pc, hpcv⟩ : ∃ x, x = h.pc := ⟨_, rfl⟩
  have era : h.reg (k1 : Int) = xa := by rw [hxa]; rfl
  have erb : h.reg (k2 : Int) = xb := by rw [hxb]; rfl
  have ua : U32 xa := by rw [← era]; exact reg_u wf _
  have ub : U32 xb := by rw [← erb]; exact reg_u wf _
  have un : U32 xn := by rw [hxn]; exact mod_lo _
  have up : U32 pc := by rw [hpcv]; exact wf.pc
  obtain ⟨c0, hc0⟩ : ∃ c, c = (⟨h, l, [], 0, 0⟩ : CoreD) := ⟨_, rfl⟩
  have e : doS ⟨58, kd, k1, k2, imm⟩ (⟨h, l, [], 0, 0⟩ : CoreD) = ({ c0 with out := c0.out ++ [h.reg 10] } : CoreD).setPc ((pc + 4) % 4294967296) := by
    rw [hc0]
    unfold doS
    dsimp only
    rw [era, erb, ← hxn, ← hpcv]
    rw [if_neg om, if_neg om, if_neg om, if_neg om, if_neg om, if_neg om, if_neg om, if_neg om, if_neg om, if_neg om, if_pos rfl]
    rw [show callS (⟨h, l, [], 0, 0⟩ : CoreD) = ({ (⟨h, l, [], 0, 0⟩ : CoreD) with out := ((⟨h, l, [], 0, 0⟩ : CoreD)).out ++ [h.reg 10] }, true) from (if_neg (by show ¬ h.reg 17 = 0; rw [hq]; decide)).trans (if_pos hq)]; rfl
  rw [e]
  clear e
  have HC0 := lI hc0
  have HA := lI ua
  have HB := lI ub
  have HN := lI un
  have HU := lI up
  have HPC : Hid (h.pc = pc) := lI hpcv.symm
  have HOf : Hid (∀ W, Calls Try.prog 50 #[.int .i64 imm] W fun e w' => e = .returned (.int .u32 xn) ∧ W = w') := lI (fun W => by rw [hxn]; exact of1_any imm W om)
  have HS1 := lI (fun W => sum4_any pc 4 W up ⟨by decide, by decide⟩)
  have HS2 := lI (fun W => sum4_any xa xn W ua un)
  obtain ⟨x10, hx10⟩ : ∃ x, x = h.reg 10 := ⟨_, rfl⟩
  rw [← hx10]
  have HX10 := lI hx10.symm
  clear hx10
  clear era erb ua ub un up hxn hc0 hpcv
  obtain ⟨ao, cap, hve, _⟩ := hv.open
  have HV := lI hv
  have wfc : ((⟨h, l, [], 0, 0⟩ : CoreD)).Wf := ⟨wf, hb, by simp, (⟨by decide, by decide⟩ : U32 0), (⟨by decide, by decide⟩ : U32 0), zM, by simp⟩
  obtain ⟨d0, hd0⟩ : ∃ d0, d0 = (⟨h, v, .slice none 0 0, 0, 0⟩ : DidD) := ⟨_, rfl⟩
  have d0_ok : d0.Ok := by rw [hd0]; exact ⟨wf.len, hv.one, rfl⟩
  have HBD := lI (fun W => build_did h wf.len v hv.one ao _ cap hve W)
  rw [← hd0] at HBD
  have hbox : At (w.alloc (.cells (hcells h) 67)) w.heap.size 0 (hlist h) := at_alloc w (hlist h) 67 (0, 0)
  have hsz : (Try.prog.info? 67).map (·.size) = some (hcells h).size := by rw [hcells_size wf]; kernel_rfl
  have HDO : Hid (∀ W, Ints .u8 W v l → DidOf W d0 c0) := lI (fun W hW => by rw [hd0, HC0.out]; exact ⟨rfl, hW, Sl.nil _ _, rfl, rfl⟩)
  have HD0E := lI hd0
  subst hve
  clear hv hd0
  go_enter Try.func34, Try.ntmps34
  go_upto_region 1 with (fail)
  show Code.wp _ _ _ _ ((w.alloc (.cells (hcells h) 67)).alloc (.cells (dcells did0) 88))
  have hb1 : At ((w.alloc (.cells (hcells h) 67)).alloc (.cells (dcells did0) 88)) w.heap.size 0 (hlist h) := hbox.below Fb.blw
  have hbz1 : Below w.heap.size w ((w.alloc (.cells (hcells h) 67)).alloc (.cells (dcells did0) 88)) := Fb.blw
  have hs1 : (((w.alloc (.cells (hcells h) 67)).alloc (.cells (dcells did0) 88))).heap.size = w.heap.size + 2 := by simp
  have hR1 := there_begin h (w := w) (tH := 67) (tD := 88)
  generalize ((w.alloc (.cells (hcells h) 67)).alloc (.cells (dcells did0) 88)) = w1 at *
  have HSZ1 := lI hs1
  clear hs1
  go_upto_region 2 with (first | (refine wpList_load_at rfl 67 _ rfl w.heap.size 0 rfl (hcells h) _ hb1 Try.underlying67 rfl hsz ?_) | (refine wpList_buildV rfl 88 _ rfl #[(0, .agg (hcells h)), (1, .slice ao l.length cap)] zD _ (HBD.out _) ?_) | (refine wpList_store_new rfl 88 _ _ rfl w1 _ (dcells d0) rfl rfl rfl (did_size d0_ok) zL (dlist_one d0_ok) ?_))
  have hs1 := HSZ1.out
  have hD := DBox.begin3 (w := w1) (tD := 88) (d := d0) hR1 om
  have hb2 := hb1.below (Below.alloc br (Nat.le_refl _) (.cells (dcells d0) 88))
  have hbz2 : Below w.heap.size w (w1.alloc (.cells (dcells d0) 88)) := hbz1.trans (Below.alloc br om _)
  have hs2 : (w1.alloc (.cells (dcells d0) 88)).heap.size = w.heap.size + 3 := by simp; omega
  rw [hs1] at hD
  have e12 : w1.heap.size = w.heap.size + 2 := hs1
  rw [e12]
  generalize w1.alloc (.cells (dcells d0) 88) = w2 at *
  have hpc := hb2.get (hlist_pc wf)
  simp only [Nat.zero_add] at hpc
  clear hb1 hbz1 hs1 hR1 e12
  have HL := lI (fun W hW => load3_any (.slice ao l.length cap) l 13 h.pc W hW wf.pc hb.getD)
  rw [hok] at HL
  clear hok
  have HDc := lI (fun W => decode2_any (mLoad l 13 h.pc) W (mLoad_u13 l h.pc wf.pc hb.getD))
  rw [hdec] at HDc
  simp only [Option.getD_some, Option.isSome_some, icells] at HDc
  go_upto_region 5 with (go_at_call 40; refine (HL.out _ (HV.out.below hbz2)).mono ?_; rintro e w3 ⟨rfl, rfl⟩)
  go_wp2_with fail
  refine (HDc.out _).mono ?_
  rintro e w3 ⟨rfl, hb3⟩
  obtain ⟨w4, hw4⟩ : ∃ w4, w4 = w3.alloc (.cells #[.int .i64 58, .int .i64 kd, .int .i64 k1, .int .i64 k2, .int .i32 imm] 110) := ⟨_, rfl⟩
  have hs3 := hb3.size
  have hB4 : Below w2.heap.size w2 w4 := by rw [hw4]; exact hb3.trans (Below.alloc br hs3 _)
  have hs4 : w4.heap.size = w3.heap.size + 1 := by rw [hw4]; simp
  have q0 : w4.cell? ⟨w3.heap.size, 0, none⟩ = some (.int .i64 58) := by rw [hw4]; go_cell
  have q1 : w4.cell? ⟨w3.heap.size, 1, none⟩ = some (.int .i64 kd) := by rw [hw4]; go_cell
  have q2 : w4.cell? ⟨w3.heap.size, 2, none⟩ = some (.int .i64 k1) := by rw [hw4]; go_cell
  have q3 : w4.cell? ⟨w3.heap.size, 3, none⟩ = some (.int .i64 k2) := by rw [hw4]; go_cell
  have q4 : w4.cell? ⟨w3.heap.size, 4, none⟩ = some (.int .i32 imm) := by rw [hw4]; go_cell
  have hh4 : At w4 w.heap.size 0 (hlist h) := hb2.below hB4
  have HD5 := lI ((hD.below om om hB4))
  have hra := hh4.get (hlist_reg wf k1 h1)
  have hrb := hh4.get (hlist_reg wf k2 h2)
  have hpc4 := hh4.get (hlist_pc wf)
  simp only [Nat.zero_add] at hra hrb hpc4
  rw [← hxa] at hra
  rw [← hxb] at hrb
  have hbz4 : Below w.heap.size w w4 := hbz2.trans (hB4.mono om)
  have HW4 := lI hw4
  clear hw4 hb2 hB4 hb3 hD hpc hbz2 hxa hxb
  have j1 : (k1 : Int) < 32 := om
  have j2 : (k2 : Int) < 32 := om
  go_upto_region 6 with (fail)
  rw [← HW4.out]
  rw [HPC.out] at hpc4
  go_upto_region 13 with (first | (go_at_call 50; refine (HOf.out _).mono ?_; rintro e w' ⟨rfl, rfl⟩) | (go_at_call 51; refine (HS1.out _).mono ?_; rintro e w' ⟨rfl, na, rfl⟩) | (go_at_call 51; refine (HS2.out _).mono ?_; rintro e w' ⟨rfl, nb, rfl⟩))
  have hpc5 : (w4.drewN (na + nb)).cell? ⟨w.heap.size, 32, none⟩ = some (.int .u32 pc) := hpc4
  have hh5 : At (w4.drewN (na + nb)) w.heap.size 0 (hlist h) := hh4
  have HD6 := lI (HD5.out.drewN (na + nb))
  have hbz : Below w.heap.size w (w4.drewN (na + nb)) := below_drewN hbz4 _
  have hsz5 : (w4.drewN (na + nb)).heap.size = w3.heap.size + 1 := hs4
  have p0 : (w4.drewN (na + nb)).cell? ⟨w3.heap.size, 0, none⟩ = some (.int .i64 58) := q0
  have p1 : (w4.drewN (na + nb)).cell? ⟨w3.heap.size, 1, none⟩ = some (.int .i64 kd) := q1
  have p2 : (w4.drewN (na + nb)).cell? ⟨w3.heap.size, 2, none⟩ = some (.int .i64 k1) := q2
  have p3 : (w4.drewN (na + nb)).cell? ⟨w3.heap.size, 3, none⟩ = some (.int .i64 k2) := q3
  have p4 : (w4.drewN (na + nb)).cell? ⟨w3.heap.size, 4, none⟩ = some (.int .i32 imm) := q4
  clear q0 q1 q2 q3 q4 hpc4 hh4 HD5 hra hrb hbz4 hs4
  generalize w4.drewN (na + nb) = w5 at *
  have r17 := hh5.get (hlist_reg wf 17 zN)
  simp only [Nat.zero_add] at r17
  have r10 := hh5.get (hlist_reg wf 10 zN)
  simp only [Nat.zero_add] at r10
  rw [show h.regs.getD 17 0 = 1 from hq] at r17
  rw [show h.regs.getD 10 0 = x10 from HX10.out] at r10
  go_upto_region 51 with (fail)
  have hnew : Below w5.heap.size w5 (w5.alloc (.cells #[.int .u32 x10] 58)) := Below.alloc br (Nat.le_refl _) _
  obtain ⟨d1, hd1⟩ : ∃ d1, d1 = ({ d0 with vo := .slice (some ⟨w5.heap.size, 0, none⟩) 1 1 } : DidD) := ⟨_, rfl⟩
  have d1_ok : d1.Ok := by rw [hd1]; exact ⟨d0_ok.len, d0_ok.m1, rfl⟩
  have HD7 : Hid (DBox (w.heap.size + 2) (w.heap.size + 1) 88 ((w5.alloc (.cells #[.int .u32 x10] 58)).setCell ⟨w.heap.size + 2, 38, none⟩ (.slice (some ⟨w5.heap.size, 0, none⟩) 1 1)) d1) := lI (by
    rw [hd1]
    exact (HD6.out.below om om hnew).set 38 (.slice (some ⟨w5.heap.size, 0, none⟩) 1 1) yO (dlist_setT (d := d0) (d' := { d0 with vo := .slice (some ⟨w5.heap.size, 0, none⟩) 1 1 }) rfl d0_ok.len (j := 1) rfl))
  have HD6a := HD6.out.below om om hnew
  have c38 : (w5.alloc (.cells #[.int .u32 x10] 58)).cell? ⟨w.heap.size + 2, 38, none⟩ = some (.slice none 0 0) := HD6a.get (by
    have := dlist_t (d := d0) d0_ok.len 1
    rw [show 37 + 1 = 38 from rfl] at this
    rw [this]
    show some d0.vo = _
    rw [HD0E.out])
  have f38 := HD6a.frz 38
  have hbe0 := hbz.trans (hnew.mono om)
  have hbe := hbe0.setCell (p := ⟨w.heap.size + 2, 38, none⟩) zK (.slice (some ⟨w5.heap.size, 0, none⟩) 1 1)
  have hX : Ints .u32 ((w5.alloc (.cells #[.int .u32 x10] 58)).setCell ⟨w.heap.size + 2, 38, none⟩ (.slice (some ⟨w5.heap.size, 0, none⟩) 1 1)) (.slice (some ⟨w5.heap.size, 0, none⟩) 1 1) [x10] := Ints.mk ((at_alloc w5 [.int .u32 x10] 58 (0, 0)).set_other (p := ⟨w.heap.size + 2, 38, none⟩) (by show w.heap.size + 2 ≠ w5.heap.size; omega) _) rfl zN zN
  have HX := lI hX
  have HS5 : Hid (w.heap.size + 3 ≤ w5.heap.size) := lI om
  have HVM : Hid (d1.vm = .slice ao l.length cap ∧ d1.vo = .slice (some ⟨w5.heap.size, 0, none⟩) 1 1) := lI zV
  have HDD : Hid (∀ W, Below w.heap.size w W → Ints .u32 W d1.vo [x10] → DidOf W d1 { c0 with out := c0.out ++ [x10] }) := lI (fun W hW ho => by
    have hx := HDO.out _ (HV.out.below hW)
    have e0 : c0.out = [] := by rw [HC0.out]
    rw [e0, List.nil_append]
    rw [hd1] at ho ⊢
    exact ⟨hx.h, hx.m, ho, hx.fr, hx.many⟩)
  have p0n : ((w5.alloc (.cells #[.int .u32 x10] 58)).setCell ⟨w.heap.size + 2, 38, none⟩ (.slice (some ⟨w5.heap.size, 0, none⟩) 1 1)).cell? ⟨w3.heap.size, 0, none⟩ = some (.int .i64 58) := (World.cell?_setCell_other _ _ _ _ zR).trans ((hnew.cell (p := ⟨w3.heap.size, 0, none⟩) (by show w3.heap.size < _; omega)).trans p0)
  clear hd1 hX hnew hbe0 hh5 HD6a p0 p1 p2 p3 p4 hsz5
  go_upto_region 54 with (fail)
  generalize ((w5.alloc (.cells #[.int .u32 x10] 58)).setCell ⟨w.heap.size + 2, 38, none⟩ (.slice (some ⟨w5.heap.size, 0, none⟩) 1 1)) = w7 at *
  have c32 := HD7.out.get (dlist_h (hlist_pc' d1_ok.len))
  have f32 := HD7.out.frz 32
  obtain ⟨d9, hd9⟩ : ∃ d9, d9 = ({ d1 with h := { d1.h with pc := ((pc + 4) % 4294967296) } } : DidD) := ⟨_, rfl⟩
  have d9_ok : d9.Ok := by rw [hd9]; exact ⟨d1_ok.len, d1_ok.m1, d1_ok.o1⟩
  have HD9 : Hid (DBox (w.heap.size + 2) (w.heap.size + 1) 88 (w7.setCell ⟨w.heap.size + 2, 32, none⟩ (.int .u32 ((pc + 4) % 4294967296))) d9) := lI (by
    rw [hd9]
    exact HD7.out.set 32 (.int .u32 ((pc + 4) % 4294967296)) zW (dlist_setH (hlist_setPc d1_ok.len ((pc + 4) % 4294967296)) zU))
  have hbf := hbe.setCell (p := ⟨w.heap.size + 2, 32, none⟩) zK (.int .u32 ((pc + 4) % 4294967296))
  have HD9E := lI hd9
  clear hd9
  go_upto_region 55 with (fail)
  have ht := HD9.out.there
  rw [← dcells_size d9_ok] at ht
  have hld := load_setCells (P := Try.prog) ht Try.underlying88 rfl (did_size d9_ok)
  go_wp2_with (first | (refine wpList_load_at rfl 88 _ rfl (w.heap.size + 2) 0 rfl (dcells d9) _ HD9.out.at_ Try.underlying88 rfl (did_size d9_ok) ?_) | (refine wpList_store_mid rfl 88 _ _ rfl (w.heap.size + 1) 0 (dcells d9) rfl rfl ht (did_size d9_ok) (dlist_all d9_ok) ?_))
  refine bodyPost_ret (results_c1 zE _ zE hld) rfl ⟨d9, rfl, ?_, .inl ?_, ?_, below_setCells om _ _ _ hbf⟩
  · rw [HD9E.out]
    have hW := below_setCells (b := w.heap.size + 1) om (dcells d9).toList 0 _ hbf
    rw [HD9E.out] at hW
    exact (HDD.out _ hW (by rw [HVM.out.2]; exact sl_setCells (fun b off n c e => by cases e; have := HS5.out; omega) _ _ _ (HX.out.set_other (fun b off n c e => by cases e; have := HS5.out; show w.heap.size + 2 ≠ _; omega) _))).setPc _
  · rw [HD9E.out]; exact HVM.out.1
  · rw [HD9E.out]; intro q e; rw [show ({ d1 with h := { d1.h with pc := ((pc + 4) % 4294967296) } } : DidD).vo = .slice (some ⟨w5.heap.size, 0, none⟩) 1 1 from HVM.out.2] at e; cases e; have := HS5.out; show w.heap.size ≤ w5.heap.size; omega
theorem step4_nodec (h : Hart) (wf : h.Wf) (v : Value) (l : List Int) (w : World) (hv : Ints .u8 w v l) (hb : Bytes l) (hl : l.length ≤ 4096) (hok : mLoadOk l 13 h.pc = true) (hdec : dec (mLoad l 13 h.pc) = none) :
    Calls Try.prog 34 #[.agg (hcells h), v] w fun e w' => ∃ d', e = .returned (.agg (dcells d')) ∧ DidOf w' d' ((⟨h, l, [], 0, 0⟩ : CoreD).trap 2) ∧ (d'.vm = v ∨ ∀ q, d'.vm.ownBlock = some q → w.heap.size ≤ q) ∧ (∀ q, d'.vo.ownBlock = some q → w.heap.size ≤ q) ∧ Below w.heap.size w w' := by
  obtain ⟨ao, cap, hve, _⟩ := hv.open
  have HV := lI hv
  have wfc : ((⟨h, l, [], 0, 0⟩ : CoreD)).Wf := ⟨wf, hb, by simp, (⟨by decide, by decide⟩ : U32 0), (⟨by decide, by decide⟩ : U32 0), zM, by simp⟩
  obtain ⟨d0, hd0⟩ : ∃ d0, d0 = (⟨h, v, .slice none 0 0, 0, 0⟩ : DidD) := ⟨_, rfl⟩
  have d0_ok : d0.Ok := by rw [hd0]; exact ⟨wf.len, hv.one, rfl⟩
  have HBD := lI (fun W => build_did h wf.len v hv.one ao _ cap hve W)
  rw [← hd0] at HBD
  have hbox : At (w.alloc (.cells (hcells h) 67)) w.heap.size 0 (hlist h) := at_alloc w (hlist h) 67 (0, 0)
  have hsz : (Try.prog.info? 67).map (·.size) = some (hcells h).size := by rw [hcells_size wf]; kernel_rfl
  have HDO : Hid (∀ W, Ints .u8 W v l → DidOf W d0 (⟨h, l, [], 0, 0⟩ : CoreD)) := lI (fun W hW => by rw [hd0]; exact ⟨rfl, hW, Sl.nil _ _, rfl, rfl⟩)
  have HD0E := lI hd0
  subst hve
  clear hv hd0
  go_enter Try.func34, Try.ntmps34
  go_upto_region 1 with (fail)
  show Code.wp _ _ _ _ ((w.alloc (.cells (hcells h) 67)).alloc (.cells (dcells did0) 88))
  have hb1 : At ((w.alloc (.cells (hcells h) 67)).alloc (.cells (dcells did0) 88)) w.heap.size 0 (hlist h) := hbox.below Fb.blw
  have hbz1 : Below w.heap.size w ((w.alloc (.cells (hcells h) 67)).alloc (.cells (dcells did0) 88)) := Fb.blw
  have hs1 : (((w.alloc (.cells (hcells h) 67)).alloc (.cells (dcells did0) 88))).heap.size = w.heap.size + 2 := by simp
  have hR1 := there_begin h (w := w) (tH := 67) (tD := 88)
  generalize ((w.alloc (.cells (hcells h) 67)).alloc (.cells (dcells did0) 88)) = w1 at *
  have HSZ1 := lI hs1
  clear hs1
  go_upto_region 2 with (first | (refine wpList_load_at rfl 67 _ rfl w.heap.size 0 rfl (hcells h) _ hb1 Try.underlying67 rfl hsz ?_) | (refine wpList_buildV rfl 88 _ rfl #[(0, .agg (hcells h)), (1, .slice ao l.length cap)] zD _ (HBD.out _) ?_) | (refine wpList_store_new rfl 88 _ _ rfl w1 _ (dcells d0) rfl rfl rfl (did_size d0_ok) zL (dlist_one d0_ok) ?_))
  have hs1 := HSZ1.out
  have hD := DBox.begin3 (w := w1) (tD := 88) (d := d0) hR1 om
  have hb2 := hb1.below (Below.alloc br (Nat.le_refl _) (.cells (dcells d0) 88))
  have hbz2 : Below w.heap.size w (w1.alloc (.cells (dcells d0) 88)) := hbz1.trans (Below.alloc br om _)
  have hs2 : (w1.alloc (.cells (dcells d0) 88)).heap.size = w.heap.size + 3 := by simp; omega
  rw [hs1] at hD
  have e12 : w1.heap.size = w.heap.size + 2 := hs1
  rw [e12]
  generalize w1.alloc (.cells (dcells d0) 88) = w2 at *
  have hpc := hb2.get (hlist_pc wf)
  simp only [Nat.zero_add] at hpc
  clear hb1 hbz1 hs1 hR1 e12
  have HL := lI (fun W hW => load3_any (.slice ao l.length cap) l 13 h.pc W hW wf.pc hb.getD)
  rw [hok] at HL
  have HDc := lI (fun W => decode2_any (mLoad l 13 h.pc) W (mLoad_u13 l h.pc wf.pc hb.getD))
  rw [hdec] at HDc
  simp only [Option.getD_none, Option.isSome_none, icells] at HDc
  go_upto_region 5 with (go_at_call 40; refine (HL.out _ (HV.out.below hbz2)).mono ?_; rintro e w3 ⟨rfl, rfl⟩)
  go_wp2_with fail
  refine (HDc.out _).mono ?_
  rintro e w3 ⟨rfl, hb3⟩
  have hs3 := hb3.size
  have HD := lI ((hD.below om om hb3).below (w' := w3.alloc (.cells #[.int .i64 0, .int .i64 0, .int .i64 0, .int .i64 0, .int .i32 0] 110)) om om (Below.alloc br (Nat.le_refl _) _))
  have hbz3 : Below w.heap.size w (w3.alloc (.cells #[.int .i64 0, .int .i64 0, .int .i64 0, .int .i64 0, .int .i32 0] 110)) := (hbz2.trans (hb3.mono om)).trans (Below.alloc br om _)
  clear hb3 hD hpc
  go_wp2_with (first | (refine wpList_load_at rfl 88 _ rfl (w.heap.size + 2) 0 rfl (dcells d0) _ HD.out.at_ Try.underlying88 rfl (did_size d0_ok) ?_))
  refine (trap4_any d0 d0_ok 2 _).mono ?_
  rintro e w4 ⟨rfl, hb4⟩
  have hs4 := hb4.size
  have HD2 := lI (HD.out.below zP zP hb4)
  have d1_ok : (d0.trap 2).Ok := ⟨d0_ok.len, d0_ok.m1, d0_ok.o1⟩
  have hbe := hbz3.trans (hb4.mono zP)
  clear hb4
  have ht : (w4).there (w.heap.size + 1) 0 (dcells (d0.trap 2)).size := by rw [dcells_size d1_ok]; exact HD2.out.there
  have hld := load_setCells (P := Try.prog) ht Try.underlying88 rfl (did_size d1_ok)
  go_wp2_with (first | (refine wpList_store_mid rfl 88 _ _ rfl (w.heap.size + 1) 0 (dcells (d0.trap 2)) rfl rfl ht (did_size d1_ok) (dlist_all d1_ok) ?_))
  refine bodyPost_ret (results_c1 zE _ zE hld) rfl ⟨_, rfl, (HDO.out _ (HV.out.below (below_setCells om _ _ _ hbe))).trap 2, .inl ?_, ?_, below_setCells om _ _ _ hbe⟩
  · rw [HD0E.out]; rfl
  · rw [HD0E.out]; intro q e; cases e
theorem step4_auipc (h : Hart) (wf : h.Wf) (v : Value) (l : List Int) (w : World) (hv : Ints .u8 w v l) (hb : Bytes l) (hl : l.length ≤ 4096) (hok : mLoadOk l 13 h.pc = true) (kd k1 k2 : Nat) (imm : Int) (hk : kd < 32) (h1 : k1 < 32) (h2 : k2 < 32) (hi : -2147483648 ≤ imm ∧ imm ≤ 2147483647) (hdec : dec (mLoad l 13 h.pc) = some ⟨2, kd, k1, k2, imm⟩) :
    Calls Try.prog 34 #[.agg (hcells h), v] w fun e w' => ∃ d', e = .returned (.agg (dcells d')) ∧ DidOf w' d' (doS ⟨2, kd, k1, k2, imm⟩ (⟨h, l, [], 0, 0⟩ : CoreD)) ∧ (d'.vm = v ∨ ∀ q, d'.vm.ownBlock = some q → w.heap.size ≤ q) ∧ (∀ q, d'.vo.ownBlock = some q → w.heap.size ≤ q) ∧ Below w.heap.size w w' := by
  obtain ⟨i0, i1⟩ := hi
  obtain ⟨xa, hxa⟩ : ∃ x, x = h.regs.getD k1 0 := ⟨_, rfl⟩
  obtain ⟨xb, hxb⟩ : ∃ x, x = h.regs.getD k2 0 := ⟨_, rfl⟩
  obtain ⟨xn, hxn⟩ : ∃ x, x = imm % 4294967296 := ⟨_, rfl⟩
  obtain ⟨pc, hpcv⟩ : ∃ x, x = h.pc := ⟨_, rfl⟩
  have era : h.reg (k1 : Int) = xa := by rw [hxa]; rfl
  have erb : h.reg (k2 : Int) = xb := by rw [hxb]; rfl
  have ua : U32 xa := by rw [← era]; exact reg_u wf _
  have ub : U32 xb := by rw [← erb]; exact reg_u wf _
  have un : U32 xn := by rw [hxn]; exact mod_lo _
  have up : U32 pc := by rw [hpcv]; exact wf.pc
  obtain ⟨c0, hc0⟩ : ∃ c, c = (⟨h, l, [], 0, 0⟩ : CoreD) := ⟨_, rfl⟩
  have e : doS ⟨2, kd, k1, k2, imm⟩ (⟨h, l, [], 0, 0⟩ : CoreD) = (c0.set kd ((pc + xn) % 4294967296)).setPc ((pc + 4) % 4294967296) := by
    rw [hc0]
    unfold doS
    dsimp only
    rw [era, erb, ← hxn, ← hpcv]
    rw [if_neg om, if_pos rfl]
  rw [e]
  clear e
  have HC0 := lI hc0
  have HA := lI ua
  have HB := lI ub
  have HN := lI un
  have HU := lI up
  have HPC : Hid (h.pc = pc) := lI hpcv.symm
  have HOf : Hid (∀ W, Calls Try.prog 50 #[.int .i64 imm] W fun e w' => e = .returned (.int .u32 xn) ∧ W = w') := lI (fun W => by rw [hxn]; exact of1_any imm W om)
  have HS1 := lI (fun W => sum4_any pc 4 W up ⟨by decide, by decide⟩)
  have HS2 := lI (fun W => sum4_any xa xn W ua un)
  have HS3 := lI (fun W => sum4_any pc xn W up un)
  clear era erb ua ub un up hxn hc0 hpcv
  obtain ⟨ao, cap, hve, _⟩ := hv.open
  have HV := lI hv
  have wfc : ((⟨h, l, [], 0, 0⟩ : CoreD)).Wf := ⟨wf, hb, by simp, (⟨by decide, by decide⟩ : U32 0), (⟨by decide, by decide⟩ : U32 0), zM, by simp⟩
  obtain ⟨d0, hd0⟩ : ∃ d0, d0 = (⟨h, v, .slice none 0 0, 0, 0⟩ : DidD) := ⟨_, rfl⟩
  have d0_ok : d0.Ok := by rw [hd0]; exact ⟨wf.len, hv.one, rfl⟩
  have HBD := lI (fun W => build_did h wf.len v hv.one ao _ cap hve W)
  rw [← hd0] at HBD
  have hbox : At (w.alloc (.cells (hcells h) 67)) w.heap.size 0 (hlist h) := at_alloc w (hlist h) 67 (0, 0)
  have hsz : (Try.prog.info? 67).map (·.size) = some (hcells h).size := by rw [hcells_size wf]; kernel_rfl
  have HDO : Hid (∀ W, Ints .u8 W v l → DidOf W d0 c0) := lI (fun W hW => by rw [hd0, HC0.out]; exact ⟨rfl, hW, Sl.nil _ _, rfl, rfl⟩)
  have HD0E := lI hd0
  subst hve
  clear hv hd0
  go_enter Try.func34, Try.ntmps34
  go_upto_region 1 with (fail)
  show Code.wp _ _ _ _ ((w.alloc (.cells (hcells h) 67)).alloc (.cells (dcells did0) 88))
  have hb1 : At ((w.alloc (.cells (hcells h) 67)).alloc (.cells (dcells did0) 88)) w.heap.size 0 (hlist h) := hbox.below Fb.blw
  have hbz1 : Below w.heap.size w ((w.alloc (.cells (hcells h) 67)).alloc (.cells (dcells did0) 88)) := Fb.blw
  have hs1 : (((w.alloc (.cells (hcells h) 67)).alloc (.cells (dcells did0) 88))).heap.size = w.heap.size + 2 := by simp
  have hR1 := there_begin h (w := w) (tH := 67) (tD := 88)
  generalize ((w.alloc (.cells (hcells h) 67)).alloc (.cells (dcells did0) 88)) = w1 at *
  have HSZ1 := lI hs1
  clear hs1
  go_upto_region 2 with (first | (refine wpList_load_at rfl 67 _ rfl w.heap.size 0 rfl (hcells h) _ hb1 Try.underlying67 rfl hsz ?_) | (refine wpList_buildV rfl 88 _ rfl #[(0, .agg (hcells h)), (1, .slice ao l.length cap)] zD _ (HBD.out _) ?_) | (refine wpList_store_new rfl 88 _ _ rfl w1 _ (dcells d0) rfl rfl rfl (did_size d0_ok) zL (dlist_one d0_ok) ?_))
  have hs1 := HSZ1.out
  have hD := DBox.begin3 (w := w1) (tD := 88) (d := d0) hR1 om
  have hb2 := hb1.below (Below.alloc br (Nat.le_refl _) (.cells (dcells d0) 88))
  have hbz2 : Below w.heap.size w (w1.alloc (.cells (dcells d0) 88)) := hbz1.trans (Below.alloc br om _)
  have hs2 : (w1.alloc (.cells (dcells d0) 88)).heap.size = w.heap.size + 3 := by simp; omega
  rw [hs1] at hD
  have e12 : w1.heap.size = w.heap.size + 2 := hs1
  rw [e12]
  generalize w1.alloc (.cells (dcells d0) 88) = w2 at *
  have hpc := hb2.get (hlist_pc wf)
  simp only [Nat.zero_add] at hpc
  clear hb1 hbz1 hs1 hR1 e12
  have HL := lI (fun W hW => load3_any (.slice ao l.length cap) l 13 h.pc W hW wf.pc hb.getD)
  rw [hok] at HL
  clear hok
  have HDc := lI (fun W => decode2_any (mLoad l 13 h.pc) W (mLoad_u13 l h.pc wf.pc hb.getD))
  rw [hdec] at HDc
  simp only [Option.getD_some, Option.isSome_some, icells] at HDc
  go_upto_region 5 with (go_at_call 40; refine (HL.out _ (HV.out.below hbz2)).mono ?_; rintro e w3 ⟨rfl, rfl⟩)
  go_wp2_with fail
  refine (HDc.out _).mono ?_
  rintro e w3 ⟨rfl, hb3⟩
  obtain ⟨w4, hw4⟩ : ∃ w4, w4 = w3.alloc (.cells #[.int .i64 2, .int .i64 kd, .int .i64 k1, .int .i64 k2, .int .i32 imm] 110) := ⟨_, rfl⟩
  have hs3 := hb3.size
  have hB4 : Below w2.heap.size w2 w4 := by rw [hw4]; exact hb3.trans (Below.alloc br hs3 _)
  have hs4 : w4.heap.size = w3.heap.size + 1 := by rw [hw4]; simp
  have q0 : w4.cell? ⟨w3.heap.size, 0, none⟩ = some (.int .i64 2) := by rw [hw4]; go_cell
  have q1 : w4.cell? ⟨w3.heap.size, 1, none⟩ = some (.int .i64 kd) := by rw [hw4]; go_cell
  have q2 : w4.cell? ⟨w3.heap.size, 2, none⟩ = some (.int .i64 k1) := by rw [hw4]; go_cell
  have q3 : w4.cell? ⟨w3.heap.size, 3, none⟩ = some (.int .i64 k2) := by rw [hw4]; go_cell
  have q4 : w4.cell? ⟨w3.heap.size, 4, none⟩ = some (.int .i32 imm) := by rw [hw4]; go_cell
  have hh4 : At w4 w.heap.size 0 (hlist h) := hb2.below hB4
  have HD5 := lI ((hD.below om om hB4))
  have hra := hh4.get (hlist_reg wf k1 h1)
  have hrb := hh4.get (hlist_reg wf k2 h2)
  have hpc4 := hh4.get (hlist_pc wf)
  simp only [Nat.zero_add] at hra hrb hpc4
  rw [← hxa] at hra
  rw [← hxb] at hrb
  have hbz4 : Below w.heap.size w w4 := hbz2.trans (hB4.mono om)
  have HW4 := lI hw4
  clear hw4 hb2 hB4 hb3 hD hpc hbz2 hxa hxb
  have j1 : (k1 : Int) < 32 := om
  have j2 : (k2 : Int) < 32 := om
  go_upto_region 6 with (fail)
  rw [← HW4.out]
  rw [HPC.out] at hpc4
  go_upto_region 13 with (first | (go_at_call 50; refine (HOf.out _).mono ?_; rintro e w' ⟨rfl, rfl⟩) | (go_at_call 51; refine (HS1.out _).mono ?_; rintro e w' ⟨rfl, na, rfl⟩) | (go_at_call 51; refine (HS2.out _).mono ?_; rintro e w' ⟨rfl, nb, rfl⟩))
  have hpc5 : (w4.drewN (na + nb)).cell? ⟨w.heap.size, 32, none⟩ = some (.int .u32 pc) := hpc4
  have hh5 : At (w4.drewN (na + nb)) w.heap.size 0 (hlist h) := hh4
  have HD6 := lI (HD5.out.drewN (na + nb))
  have hbz : Below w.heap.size w (w4.drewN (na + nb)) := below_drewN hbz4 _
  have hsz5 : (w4.drewN (na + nb)).heap.size = w3.heap.size + 1 := hs4
  have p0 : (w4.drewN (na + nb)).cell? ⟨w3.heap.size, 0, none⟩ = some (.int .i64 2) := q0
  have p1 : (w4.drewN (na + nb)).cell? ⟨w3.heap.size, 1, none⟩ = some (.int .i64 kd) := q1
  have p2 : (w4.drewN (na + nb)).cell? ⟨w3.heap.size, 2, none⟩ = some (.int .i64 k1) := q2
  have p3 : (w4.drewN (na + nb)).cell? ⟨w3.heap.size, 3, none⟩ = some (.int .i64 k2) := q3
  have p4 : (w4.drewN (na + nb)).cell? ⟨w3.heap.size, 4, none⟩ = some (.int .i32 imm) := q4
  clear q0 q1 q2 q3 q4 hpc4 hh4 HD5 hra hrb hbz4 hs4
  generalize w4.drewN (na + nb) = w5 at *
  go_upto_region 16 with (fail)
  have lt3 : w3.heap.size < w5.heap.size := om
  have lt0 : w.heap.size < w5.heap.size := om
  have HSET := lI (fun W => set4_any d0 d0_ok kd hk ((pc + xn) % 4294967296) W)
  have hBx : At w5 (w.heap.size + 2) 0 (dcells d0).toList := HD6.out.at_
  have hlt2 : w.heap.size + 2 < w5.heap.size := om
  have HSZ5 := lI hsz5
  clear hsz5
  refine region_quiet_tail (fun W => Below w5.heap.size w5 W) 8 kr kr (Below.drew br) ?_
  simp only [List.take_succ_cons, List.take_zero, List.drop_succ_cons, List.drop_zero]
  refine wpQuiet_load_at rfl 88 _ rfl (w.heap.size + 2) 0 rfl (dcells d0) _ (fun W hW => hBx.of_lt hW hlt2) Try.underlying88 rfl (did_size d0_ok) ?_
  refine wpQuiet_val rfl (.pointer (some ⟨w3.heap.size, 1, none⟩)) (fun W hW => by unfold Oper.quietAt; go_simp) ?_
  refine wpQuiet_cell rfl 3 _ rfl ⟨w3.heap.size, 1, none⟩ rfl (.int .i64 kd) (fun W hW => by have hc := (hW.cell (p := ⟨w3.heap.size, 1, none⟩) lt3).trans p1; go_simp) ?_
  refine wpQuiet_val rfl (.pointer (some ⟨w.heap.size, 32, none⟩)) (fun W hW => by unfold Oper.quietAt; go_simp) ?_
  refine wpQuiet_cell rfl 58 _ rfl ⟨w.heap.size, 32, none⟩ rfl (.int .u32 pc) (fun W hW => by have hc := (hW.cell (p := ⟨w.heap.size, 32, none⟩) lt0).trans hpc5; go_simp) ?_
  refine wpQuiet_val rfl (.int .u32 xn) (fun W hW => by unfold Oper.quietAt; go_simp) ?_
  quiet_step ((intro hC; exact (HS3.out _).mono (fun e w'' ⟨he, n, hw⟩ => ⟨he, by rw [hw]; exact below_drewN hC n⟩)))
  quiet_step ((intro hC; exact (HSET.out _).mono (fun e w'' ⟨he, hb⟩ => ⟨he, hC.trans (hb.mono hC.size)⟩)))
  refine wpQuiet_nil ?_
  intro w6 hb6
  have hsz5 := HSZ5.out
  have hs6 := hb6.size
  obtain ⟨d1, hd1⟩ : ∃ d1, d1 = d0.set kd ((pc + xn) % 4294967296) := ⟨_, rfl⟩
  have d1_ok : d1.Ok := by rw [hd1]; exact d0_ok.setReg _ _
  rw [← hd1]
  have HB6 := HD6.out.below om om hb6
  have htB := HB6.thereB d0_ok d1_ok
  have HD7 := lI (HB6.put d0_ok d1_ok)
  have hbe := below_setCells (b := w.heap.size + 2) om (dcells d1).toList 0 _ (hbz.trans (hb6.mono om))
  have pc7 : (w6.setCells (w.heap.size + 2) 0 (dcells d1).toList).cell? ⟨w.heap.size, 32, none⟩ = some (.int .u32 pc) := (World.cell?_setCells_out _ _ _ _ _ (fun hb _ => absurd hb zH)).trans ((hb6.cell (p := ⟨w.heap.size, 32, none⟩) zI).trans hpc5)
  have HD1E := lI hd1
  have HDD : Hid (∀ W, Below w.heap.size w W → DidOf W d1 (c0.set kd ((pc + xn) % 4294967296))) := lI (fun W hW => by rw [hd1]; exact (HDO.out W (HV.out.below hW)).set _ _)
  have HVM : Hid (d1.vm = .slice ao l.length cap ∧ d1.vo = .slice none 0 0) := lI zV
  clear hd1 hb6 HB6 p0 p1 p2 p3 p4 hh5
  refine wpList_store_mid rfl 88 _ _ rfl (w.heap.size + 2) 0 (dcells d1) rfl rfl htB (did_size d1_ok) (dlist_all d1_ok) ?_
  go_upto_region 54 with (fail)
  generalize w6.setCells (w.heap.size + 2) 0 (dcells d1).toList = w7 at *
  have c32 := HD7.out.get (dlist_h (hlist_pc' d1_ok.len))
  have f32 := HD7.out.frz 32
  obtain ⟨d9, hd9⟩ : ∃ d9, d9 = ({ d1 with h := { d1.h with pc := ((pc + 4) % 4294967296) } } : DidD) := ⟨_, rfl⟩
  have d9_ok : d9.Ok := by rw [hd9]; exact ⟨d1_ok.len, d1_ok.m1, d1_ok.o1⟩
  have HD9 : Hid (DBox (w.heap.size + 2) (w.heap.size + 1) 88 (w7.setCell ⟨w.heap.size + 2, 32, none⟩ (.int .u32 ((pc + 4) % 4294967296))) d9) := lI (by
    rw [hd9]
    exact HD7.out.set 32 (.int .u32 ((pc + 4) % 4294967296)) zW (dlist_setH (hlist_setPc d1_ok.len ((pc + 4) % 4294967296)) zU))
  have hbf := hbe.setCell (p := ⟨w.heap.size + 2, 32, none⟩) zK (.int .u32 ((pc + 4) % 4294967296))
  have HD9E := lI hd9
  clear hd9
  go_upto_region 55 with (fail)
  have ht := HD9.out.there
  rw [← dcells_size d9_ok] at ht
  have hld := load_setCells (P := Try.prog) ht Try.underlying88 rfl (did_size d9_ok)
  go_wp2_with (first | (refine wpList_load_at rfl 88 _ rfl (w.heap.size + 2) 0 rfl (dcells d9) _ HD9.out.at_ Try.underlying88 rfl (did_size d9_ok) ?_) | (refine wpList_store_mid rfl 88 _ _ rfl (w.heap.size + 1) 0 (dcells d9) rfl rfl ht (did_size d9_ok) (dlist_all d9_ok) ?_))
  refine bodyPost_ret (results_c1 zE _ zE hld) rfl ⟨d9, rfl, ?_, .inl ?_, ?_, below_setCells om _ _ _ hbf⟩
  · rw [HD9E.out]
    have hW := below_setCells (b := w.heap.size + 1) om (dcells d9).toList 0 _ hbf
    rw [HD9E.out] at hW
    exact (HDD.out _ hW).setPc _
  · rw [HD9E.out]; exact HVM.out.1
  · rw [HD9E.out]; intro q e; rw [show ({ d1 with h := { d1.h with pc := ((pc + 4) % 4294967296) } } : DidD).vo = .slice none 0 0 from HVM.out.2] at e; cases e
end Go.Proofs.Ytlfnddmncbkjaac.W
