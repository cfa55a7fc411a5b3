import Derived.Test.YtlfnddmncbkjaacZGC
import Derived.Test.YtlfnddmncbkjaacZMA
import Derived.Test.YtlfnddmncbkjaacZMB
import Derived.Test.YtlfnddmncbkjaacZGB
set_option linter.unusedVariables false
set_option linter.unusedSimpArgs false
set_option maxRecDepth 100000
set_option maxHeartbeats 4000000
namespace Go.Proofs.Ytlfnddmncbkjaac.W
open Go.RowKit Fb
theorem atom4_sc_no (d : DidD) (c : CoreD) (w : World) (hc : DidOf w d c) (wf : c.Wf) (hl : c.m.length ≤ 4096) (kd k1 k2 : Nat) (imm : Int) (hk : kd < 32) (a b : Int) (ha : U32 a) (hb' : U32 b) (hq : mLoadOk c.m 13 a = true) (hmine : c.h.held = false ∨ (c.h.held = true ∧ ¬ c.h.heldAt = a)) :
    Calls Try.prog 57 #[.agg (dcells d), .agg #[.int .i64 47, .int .i64 kd, .int .i64 k1, .int .i64 k2, .int .i32 imm], .int .u32 a, .int .u32 b] w fun e w' => ∃ d', e = .returned (.tuple #[.agg (dcells d'), .bool true]) ∧ DidOf w' d' ((c.hold false 0).set kd 1) ∧ (d'.vm = d.vm ∨ ∀ q, d'.vm.ownBlock = some q → w.heap.size ≤ q) ∧ d'.vo = d.vo ∧ Below w.heap.size w w' := by
  have d_ok := hc.ok wf
  have HC := lI hc
  have HL := lI (fun W hW => load3_any d.vm c.m 13 a W hW ha wf.m.getD)
  have HA := lI ha
  have HB := lI hb'
  obtain ⟨old, hold⟩ : ∃ x, x = mLoad c.m 13 a := ⟨_, rfl⟩
  rw [hq, ← hold] at HL
  have HLU := lI (mLoad_u c.m 13 a om ha wf.m.getD)
  rw [← hold] at HLU
  (try rw [← hold])
  have hh1 : d.h.held = c.h.held := by rw [hc.h]
  have hh2 : d.h.heldAt = c.h.heldAt := by rw [hc.h]
  rw [← hh1, ← hh2] at hmine
  clear hh1 hh2 hc
  rcases hmine with hm | ⟨hm, hm2⟩
  all_goals
    (try have hbeq : (d.h.heldAt == a) = false := beq_eq_false_iff_ne.2 hm2)
    go_enter Try.func57, Try.ntmps57
    go_upto_region 1 with (fail)
    show Code.wp _ _ _ _ (((w.alloc (.cells (dcells d) 88)).alloc (.cells #[.int .i64 47, .int .i64 kd, .int .i64 k1, .int .i64 k2, .int .i32 imm] 110)).alloc (.cells (dcells did0) 88))
    have hD := DBox.begin2 (w := w) (tD := 88) (d := d) (z := dcells did0) (o := .cells #[.int .i64 47, .int .i64 kd, .int .i64 k1, .int .i64 k2, .int .i32 imm] 110) (dcells_size did0_ok)
    have hb0 : Below w.heap.size w (((w.alloc (.cells (dcells d) 88)).alloc (.cells #[.int .i64 47, .int .i64 kd, .int .i64 k1, .int .i64 k2, .int .i32 imm] 110)).alloc (.cells (dcells did0) 88)) := Fb.blw
    have hs0 : (((w.alloc (.cells (dcells d) 88)).alloc (.cells #[.int .i64 47, .int .i64 kd, .int .i64 k1, .int .i64 k2, .int .i32 imm] 110)).alloc (.cells (dcells did0) 88)).heap.size = w.heap.size + 3 := by simp
    have q0 : (((w.alloc (.cells (dcells d) 88)).alloc (.cells #[.int .i64 47, .int .i64 kd, .int .i64 k1, .int .i64 k2, .int .i32 imm] 110)).alloc (.cells (dcells did0) 88)).cell? ⟨w.heap.size + 1, 0, none⟩ = some (.int .i64 47) := by go_cell
    have q1 : (((w.alloc (.cells (dcells d) 88)).alloc (.cells #[.int .i64 47, .int .i64 kd, .int .i64 k1, .int .i64 k2, .int .i32 imm] 110)).alloc (.cells (dcells did0) 88)).cell? ⟨w.heap.size + 1, 1, none⟩ = some (.int .i64 kd) := by go_cell
    have q2 : (((w.alloc (.cells (dcells d) 88)).alloc (.cells #[.int .i64 47, .int .i64 kd, .int .i64 k1, .int .i64 k2, .int .i32 imm] 110)).alloc (.cells (dcells did0) 88)).cell? ⟨w.heap.size + 1, 2, none⟩ = some (.int .i64 k1) := by go_cell
    have q3 : (((w.alloc (.cells (dcells d) 88)).alloc (.cells #[.int .i64 47, .int .i64 kd, .int .i64 k1, .int .i64 k2, .int .i32 imm] 110)).alloc (.cells (dcells did0) 88)).cell? ⟨w.heap.size + 1, 3, none⟩ = some (.int .i64 k2) := by go_cell
    have q4 : (((w.alloc (.cells (dcells d) 88)).alloc (.cells #[.int .i64 47, .int .i64 kd, .int .i64 k1, .int .i64 k2, .int .i32 imm] 110)).alloc (.cells (dcells did0) 88)).cell? ⟨w.heap.size + 1, 4, none⟩ = some (.int .i32 imm) := by go_cell
    generalize ((w.alloc (.cells (dcells d) 88)).alloc (.cells #[.int .i64 47, .int .i64 kd, .int .i64 k1, .int .i64 k2, .int .i32 imm] 110)).alloc (.cells (dcells did0) 88) = w1 at *
    have c37 : w1.cell? ⟨w.heap.size, 37, none⟩ = some d.vm := hD.get (dlist_t d_ok.len 0)
    have c33 := hD.get (dlist_h (hlist_held' d_ok.len))
    have c34 := hD.get (dlist_h (hlist_heldAt' d_ok.len))
    have f33 := hD.frz 33
    have f34 := hD.frz 34
    obtain ⟨d1, hd1⟩ : ∃ d1, d1 = ({ d with h := { d.h with held := false, heldAt := 0 } } : DidD) := ⟨_, rfl⟩
    have d1_ok : d1.Ok := by rw [hd1]; exact ⟨d_ok.len, d_ok.m1, d_ok.o1⟩
    have HD1 : Hid (DBox w.heap.size (w.heap.size + 2) 88 ((w1.setCell ⟨w.heap.size, 33, none⟩ (.bool false)).setCell ⟨w.heap.size, 34, none⟩ (.int .u32 0)) d1) := lI (by
      rw [hd1]
      exact (hD.set (d' := { d with h := { d.h with held := false } }) 33 (.bool false) (by rw [dlist_len d_ok]; omega) (dlist_setH (hlist_setHeld d_ok.len false) (by rw [hlist_len d_ok.len]; omega))).set 34 (.int .u32 0) (by simp [dlist, dtail, hlist, d_ok.len]) (dlist_setH (d := { d with h := { d.h with held := false } }) (hlist_setHeldAt (h := { d.h with held := false }) d_ok.len 0) (by simp [hlist, d_ok.len])))
    have hbz := (hb0.setCell (p := ⟨w.heap.size, 33, none⟩) (Nat.le_refl _) (.bool false)).setCell (p := ⟨w.heap.size, 34, none⟩) (Nat.le_refl _) (.int .u32 0)
    have HDC1 : Hid (d1 = { d with h := { d.h with held := false, heldAt := 0 } }) := lI hd1
    have r1 : ((w1.setCell ⟨w.heap.size, 33, none⟩ (.bool false)).setCell ⟨w.heap.size, 34, none⟩ (.int .u32 0)).cell? ⟨w.heap.size + 1, 1, none⟩ = some (.int .i64 kd) := ((World.cell?_setCell_other _ _ _ _ zR).trans (World.cell?_setCell_other _ _ _ _ zR)).trans q1
    have HSZ : w.heap.size + 3 ≤ (((w1.setCell ⟨w.heap.size, 33, none⟩ (.bool false)).setCell ⟨w.heap.size, 34, none⟩ (.int .u32 0))).heap.size := by simp; omega
    rw [hm] at c33
    clear hD hd1 hold
    go_upto_region 11 with (go_at_call 40; refine (HL.out _ (HC.out.m.below hb0)).mono ?_; rintro e w2 ⟨rfl, rfl⟩)
    go_upto_region 15 with (fail)
    clear c37 c33 c34 f33 f34
    generalize ((w1.setCell ⟨w.heap.size, 33, none⟩ (.bool false)).setCell ⟨w.heap.size, 34, none⟩ (.int .u32 0)) = wz at *
    go_wp2_with (first | (refine wpList_load_at rfl 88 _ rfl (w.heap.size) 0 rfl (dcells d1) _ HD1.out.at_ Try.underlying88 rfl (did_size d1_ok) ?_))
    refine (set4_any d1 d1_ok kd hk 1 _).mono ?_
    rintro e w2 ⟨rfl, hb2⟩
    have HD2 := lI (HD1.out.below om om hb2)
    have d2_ok : (d1.set kd 1).Ok := d1_ok.setReg _ _
    have hbe := hbz.trans (hb2.mono om)
    clear hb2 q0 q2 q3 q4 r1
    have ht : (w2).there (w.heap.size + 2) 0 (dcells (d1.set kd 1)).size := by rw [dcells_size d2_ok]; exact HD2.out.there
    have hld := load_setCells (P := Try.prog) ht Try.underlying88 rfl (did_size d2_ok)
    go_wp2_with (first | (refine wpList_store_mid rfl 88 _ _ rfl (w.heap.size + 2) 0 (dcells (d1.set kd 1)) rfl rfl ht (did_size d2_ok) (dlist_all d2_ok) ?_))
    refine bodyPost_ret (results_c1t zE _ zE hld) rfl ⟨_, rfl, ?_, .inl ?_, ?_, below_setCells om _ _ _ hbe⟩
    · rw [HDC1.out]
      exact ((HC.out.below (below_setCells om _ _ _ hbe)).hold false 0).set kd 1
    · rw [HDC1.out]; rfl
    · rw [HDC1.out]; rfl
theorem atom4_sc (d : DidD) (c : CoreD) (w : World) (hc : DidOf w d c) (wf : c.Wf) (hl : c.m.length ≤ 4096) (kd k1 k2 : Nat) (imm : Int) (hk : kd < 32) (a b : Int) (ha : U32 a) (hb' : U32 b) (hq : mLoadOk c.m 13 a = true) (hmine : c.h.held = true) (hmine2 : c.h.heldAt = a) :
    Calls Try.prog 57 #[.agg (dcells d), .agg #[.int .i64 47, .int .i64 kd, .int .i64 k1, .int .i64 k2, .int .i32 imm], .int .u32 a, .int .u32 b] w fun e w' => ∃ d', e = .returned (.tuple #[.agg (dcells d'), .bool true]) ∧ DidOf w' d' (((c.put 18 a b).hold false 0).set kd 0) ∧ (d'.vm = d.vm ∨ ∀ q, d'.vm.ownBlock = some q → w.heap.size ≤ q) ∧ d'.vo = d.vo ∧ Below w.heap.size w w' := by
  have d_ok := hc.ok wf
  have HC := lI hc
  have HL := lI (fun W hW => load3_any d.vm c.m 13 a W hW ha wf.m.getD)
  have HA := lI ha
  have HB := lI hb'
  obtain ⟨old, hold⟩ : ∃ x, x = mLoad c.m 13 a := ⟨_, rfl⟩
  rw [hq, ← hold] at HL
  have HLU := lI (mLoad_u c.m 13 a om ha wf.m.getD)
  rw [← hold] at HLU
  (try rw [← hold])
  have hh1 : d.h.held = true := by rw [hc.h]; exact hmine
  have hh2 : d.h.heldAt = a := by rw [hc.h]; exact hmine2
  clear hc
  go_enter Try.func57, Try.ntmps57
  go_upto_region 1 with (fail)
  show Code.wp _ _ _ _ (((w.alloc (.cells (dcells d) 88)).alloc (.cells #[.int .i64 47, .int .i64 kd, .int .i64 k1, .int .i64 k2, .int .i32 imm] 110)).alloc (.cells (dcells did0) 88))
  have hD := DBox.begin2 (w := w) (tD := 88) (d := d) (z := dcells did0) (o := .cells #[.int .i64 47, .int .i64 kd, .int .i64 k1, .int .i64 k2, .int .i32 imm] 110) (dcells_size did0_ok)
  have hb0 : Below w.heap.size w (((w.alloc (.cells (dcells d) 88)).alloc (.cells #[.int .i64 47, .int .i64 kd, .int .i64 k1, .int .i64 k2, .int .i32 imm] 110)).alloc (.cells (dcells did0) 88)) := Fb.blw
  have hs0 : (((w.alloc (.cells (dcells d) 88)).alloc (.cells #[.int .i64 47, .int .i64 kd, .int .i64 k1, .int .i64 k2, .int .i32 imm] 110)).alloc (.cells (dcells did0) 88)).heap.size = w.heap.size + 3 := by simp
  have q0 : (((w.alloc (.cells (dcells d) 88)).alloc (.cells #[.int .i64 47, .int .i64 kd, .int .i64 k1, .int .i64 k2, .int .i32 imm] 110)).alloc (.cells (dcells did0) 88)).cell? ⟨w.heap.size + 1, 0, none⟩ = some (.int .i64 47) := by go_cell
  have q1 : (((w.alloc (.cells (dcells d) 88)).alloc (.cells #[.int .i64 47, .int .i64 kd, .int .i64 k1, .int .i64 k2, .int .i32 imm] 110)).alloc (.cells (dcells did0) 88)).cell? ⟨w.heap.size + 1, 1, none⟩ = some (.int .i64 kd) := by go_cell
  have q2 : (((w.alloc (.cells (dcells d) 88)).alloc (.cells #[.int .i64 47, .int .i64 kd, .int .i64 k1, .int .i64 k2, .int .i32 imm] 110)).alloc (.cells (dcells did0) 88)).cell? ⟨w.heap.size + 1, 2, none⟩ = some (.int .i64 k1) := by go_cell
  have q3 : (((w.alloc (.cells (dcells d) 88)).alloc (.cells #[.int .i64 47, .int .i64 kd, .int .i64 k1, .int .i64 k2, .int .i32 imm] 110)).alloc (.cells (dcells did0) 88)).cell? ⟨w.heap.size + 1, 3, none⟩ = some (.int .i64 k2) := by go_cell
  have q4 : (((w.alloc (.cells (dcells d) 88)).alloc (.cells #[.int .i64 47, .int .i64 kd, .int .i64 k1, .int .i64 k2, .int .i32 imm] 110)).alloc (.cells (dcells did0) 88)).cell? ⟨w.heap.size + 1, 4, none⟩ = some (.int .i32 imm) := by go_cell
  generalize ((w.alloc (.cells (dcells d) 88)).alloc (.cells #[.int .i64 47, .int .i64 kd, .int .i64 k1, .int .i64 k2, .int .i32 imm] 110)).alloc (.cells (dcells did0) 88) = w1 at *
  have c37 : w1.cell? ⟨w.heap.size, 37, none⟩ = some d.vm := hD.get (dlist_t d_ok.len 0)
  have c33 := hD.get (dlist_h (hlist_held' d_ok.len))
  have c34 := hD.get (dlist_h (hlist_heldAt' d_ok.len))
  have f33 := hD.frz 33
  have f34 := hD.frz 34
  obtain ⟨d1, hd1⟩ : ∃ d1, d1 = ({ d with h := { d.h with held := false, heldAt := 0 } } : DidD) := ⟨_, rfl⟩
  have d1_ok : d1.Ok := by rw [hd1]; exact ⟨d_ok.len, d_ok.m1, d_ok.o1⟩
  have HD1 : Hid (DBox w.heap.size (w.heap.size + 2) 88 ((w1.setCell ⟨w.heap.size, 33, none⟩ (.bool false)).setCell ⟨w.heap.size, 34, none⟩ (.int .u32 0)) d1) := lI (by
    rw [hd1]
    exact (hD.set (d' := { d with h := { d.h with held := false } }) 33 (.bool false) (by rw [dlist_len d_ok]; omega) (dlist_setH (hlist_setHeld d_ok.len false) (by rw [hlist_len d_ok.len]; omega))).set 34 (.int .u32 0) (by simp [dlist, dtail, hlist, d_ok.len]) (dlist_setH (d := { d with h := { d.h with held := false } }) (hlist_setHeldAt (h := { d.h with held := false }) d_ok.len 0) (by simp [hlist, d_ok.len])))
  have hbz := (hb0.setCell (p := ⟨w.heap.size, 33, none⟩) (Nat.le_refl _) (.bool false)).setCell (p := ⟨w.heap.size, 34, none⟩) (Nat.le_refl _) (.int .u32 0)
  have HDC1 : Hid (d1 = { d with h := { d.h with held := false, heldAt := 0 } }) := lI hd1
  have r1 : ((w1.setCell ⟨w.heap.size, 33, none⟩ (.bool false)).setCell ⟨w.heap.size, 34, none⟩ (.int .u32 0)).cell? ⟨w.heap.size + 1, 1, none⟩ = some (.int .i64 kd) := ((World.cell?_setCell_other _ _ _ _ zR).trans (World.cell?_setCell_other _ _ _ _ zR)).trans q1
  have HSZ : w.heap.size + 3 ≤ (((w1.setCell ⟨w.heap.size, 33, none⟩ (.bool false)).setCell ⟨w.heap.size, 34, none⟩ (.int .u32 0))).heap.size := by simp; omega
  rw [hh1] at c33
  rw [hh2] at c34
  clear hD hd1 hold
  go_upto_region 11 with (go_at_call 40; refine (HL.out _ (HC.out.m.below hb0)).mono ?_; rintro e w2 ⟨rfl, rfl⟩)
  go_upto_region 16 with (fail)
  clear c37 c33 c34 f33 f34
  generalize ((w1.setCell ⟨w.heap.size, 33, none⟩ (.bool false)).setCell ⟨w.heap.size, 34, none⟩ (.int .u32 0)) = wz at *
  have hm1 : Ints .u8 wz d1.vm c.m := by rw [HDC1.out]; exact HC.out.m.below hbz
  go_wp2_with (first | (refine wpList_load_at rfl 88 _ rfl (w.heap.size) 0 rfl (dcells d1) _ HD1.out.at_ Try.underlying88 rfl (did_size d1_ok) ?_))
  refine (store4_yes d1 d1_ok c.m 18 a b _ hm1 HA.out HB.out wf.mlen (by rw [store_load]; exact hq)).mono ?_
  rintro e w2 ⟨v', rfl, hv', hfr', hb2⟩
  have hsz2 := hb2.size
  obtain ⟨d2, hd2⟩ : ∃ d2, d2 = ({ d1 with vm := v', fr := a, many := msize 18 } : DidD) := ⟨_, rfl⟩
  have d2_ok : d2.Ok := by rw [hd2]; exact ⟨d1_ok.len, hv'.one, d1_ok.o1⟩
  rw [← hd2]
  have HB2 := HD1.out.below om om hb2
  have htB := HB2.thereB d1_ok d2_ok
  have HD2 := lI (HB2.put d1_ok d2_ok)
  have hbe := below_setCells (b := w.heap.size) (Nat.le_refl _) (dcells d2).toList 0 _ (hbz.trans (hb2.mono om))
  have r2 : (w2.setCells w.heap.size 0 (dcells d2).toList).cell? ⟨w.heap.size + 1, 1, none⟩ = some (.int .i64 kd) := (World.cell?_setCells_out _ _ _ _ _ (fun hb _ => absurd hb zH)).trans ((hb2.cell (p := ⟨w.heap.size + 1, 1, none⟩) yK).trans r1)
  have hv2 : Ints .u8 (w2.setCells w.heap.size 0 (dcells d2).toList) v' (mStore c.m 18 a b) := sl_setCells (fresh_ne hfr' om) _ _ _ hv'
  have hs2w : w.heap.size + 3 ≤ (w2.setCells w.heap.size 0 (dcells d2).toList).heap.size := by rw [size_setCells]; omega
  have HFR : Hid (∀ q, v'.ownBlock = some q → w.heap.size + 3 ≤ q) := lI (fun q e => by have := hfr' q e; omega)
  have HD2E := lI hd2
  clear hb2 q0 q2 q3 q4 r1 hd2 HB2 hm1 hv' hfr' hh1 hh2 hmine hmine2
  go_upto_region 17 with (first | (refine wpList_store_mid rfl 88 _ _ rfl w.heap.size 0 (dcells d2) rfl rfl htB (did_size d2_ok) (dlist_all d2_ok) ?_))
  generalize w2.setCells w.heap.size 0 (dcells d2).toList = wy at *
  go_wp2_with (first | (refine wpList_load_at rfl 88 _ rfl (w.heap.size) 0 rfl (dcells d2) _ HD2.out.at_ Try.underlying88 rfl (did_size d2_ok) ?_))
  refine (set4_any d2 d2_ok kd hk 0 _).mono ?_
  rintro e w3 ⟨rfl, hb3⟩
  have HD3 := lI (HD2.out.below om om hb3)
  have d3_ok : (d2.set kd 0).Ok := d2_ok.setReg _ _
  have hbf := hbe.trans (hb3.mono om)
  have hv3 := hv2.below hb3
  clear hb3 r2
  have ht : (w3).there (w.heap.size + 2) 0 (dcells (d2.set kd 0)).size := by rw [dcells_size d3_ok]; exact HD3.out.there
  have hld := load_setCells (P := Try.prog) ht Try.underlying88 rfl (did_size d3_ok)
  go_wp2_with (first | (refine wpList_store_mid rfl 88 _ _ rfl (w.heap.size + 2) 0 (dcells (d2.set kd 0)) rfl rfl ht (did_size d3_ok) (dlist_all d3_ok) ?_))
  refine bodyPost_ret (results_c1t zE _ zE hld) rfl ⟨_, rfl, ?_, .inr ?_, ?_, below_setCells om _ _ _ hbf⟩
  · rw [HD2E.out, HDC1.out, ← put_hold]
    have hF := below_setCells (b := w.heap.size + 2) om (dcells (d2.set kd 0)).toList 0 _ hbf
    rw [HD2E.out, HDC1.out] at hF
    have hv4 := sl_setCells (fresh_ne HFR.out (by omega : w.heap.size + 2 < w.heap.size + 3)) (dcells (d2.set kd 0)).toList 0 _ hv3
    rw [HD2E.out, HDC1.out] at hv4
    exact (((HC.out.below hF).hold false 0).put (op := 18) (by show mStoreOk c.m 18 a = true; rw [store_load]; exact hq) HA.out hl hv4).set kd 0
  · rw [HD2E.out]; exact fun q e => Nat.le_of_lt (Nat.lt_of_lt_of_le om (HFR.out q e))
  · rw [HD2E.out, HDC1.out]; rfl
theorem atom4_op (d : DidD) (c : CoreD) (w : World) (hc : DidOf w d c) (wf : c.Wf) (hl : c.m.length ≤ 4096) (op : Int) (kd k1 k2 : Nat) (imm : Int) (hop : 48 ≤ op ∧ op ≤ 56) (hk : kd < 32) (a b : Int) (ha : U32 a) (hb' : U32 b) (hq : mLoadOk c.m 13 a = true) :
    Calls Try.prog 57 #[.agg (dcells d), .agg #[.int .i64 op, .int .i64 kd, .int .i64 k1, .int .i64 k2, .int .i32 imm], .int .u32 a, .int .u32 b] w fun e w' => ∃ d', e = .returned (.tuple #[.agg (dcells d'), .bool true]) ∧ DidOf w' d' ((c.put 18 a (amo op (mLoad c.m 13 a) b)).set kd (mLoad c.m 13 a)) ∧ (d'.vm = d.vm ∨ ∀ q, d'.vm.ownBlock = some q → w.heap.size ≤ q) ∧ d'.vo = d.vo ∧ Below w.heap.size w w' := by
  have d_ok := hc.ok wf
  have HC := lI hc
  have HL := lI (fun W hW => load3_any d.vm c.m 13 a W hW ha wf.m.getD)
  have HA := lI ha
  have HB := lI hb'
  obtain ⟨o0, o1⟩ := hop
  have f46 : (op == 46) = false := beq_eq_false_iff_ne.2 om
  have f47 : (op == 47) = false := beq_eq_false_iff_ne.2 om
  obtain ⟨old, hold⟩ : ∃ x, x = mLoad c.m 13 a := ⟨_, rfl⟩
  rw [hq, ← hold] at HL
  have HLU := lI (mLoad_u c.m 13 a om ha wf.m.getD)
  rw [← hold] at HLU
  (try rw [← hold])
  have HAM := lI (fun W => amo1_any op old b W HLU.out.1 HLU.out.2 HB.out.1 HB.out.2)
  have HX := lI (amo_lo op old b HLU.out HB.out)
  generalize amo op old b = x at *
  clear hc
  go_enter Try.func57, Try.ntmps57
  go_upto_region 1 with (fail)
  show Code.wp _ _ _ _ (((w.alloc (.cells (dcells d) 88)).alloc (.cells #[.int .i64 op, .int .i64 kd, .int .i64 k1, .int .i64 k2, .int .i32 imm] 110)).alloc (.cells (dcells did0) 88))
  have hD := DBox.begin2 (w := w) (tD := 88) (d := d) (z := dcells did0) (o := .cells #[.int .i64 op, .int .i64 kd, .int .i64 k1, .int .i64 k2, .int .i32 imm] 110) (dcells_size did0_ok)
  have hb0 : Below w.heap.size w (((w.alloc (.cells (dcells d) 88)).alloc (.cells #[.int .i64 op, .int .i64 kd, .int .i64 k1, .int .i64 k2, .int .i32 imm] 110)).alloc (.cells (dcells did0) 88)) := Fb.blw
  have hs0 : (((w.alloc (.cells (dcells d) 88)).alloc (.cells #[.int .i64 op, .int .i64 kd, .int .i64 k1, .int .i64 k2, .int .i32 imm] 110)).alloc (.cells (dcells did0) 88)).heap.size = w.heap.size + 3 := by simp
  have q0 : (((w.alloc (.cells (dcells d) 88)).alloc (.cells #[.int .i64 op, .int .i64 kd, .int .i64 k1, .int .i64 k2, .int .i32 imm] 110)).alloc (.cells (dcells did0) 88)).cell? ⟨w.heap.size + 1, 0, none⟩ = some (.int .i64 op) := by go_cell
  have q1 : (((w.alloc (.cells (dcells d) 88)).alloc (.cells #[.int .i64 op, .int .i64 kd, .int .i64 k1, .int .i64 k2, .int .i32 imm] 110)).alloc (.cells (dcells did0) 88)).cell? ⟨w.heap.size + 1, 1, none⟩ = some (.int .i64 kd) := by go_cell
  have q2 : (((w.alloc (.cells (dcells d) 88)).alloc (.cells #[.int .i64 op, .int .i64 kd, .int .i64 k1, .int .i64 k2, .int .i32 imm] 110)).alloc (.cells (dcells did0) 88)).cell? ⟨w.heap.size + 1, 2, none⟩ = some (.int .i64 k1) := by go_cell
  have q3 : (((w.alloc (.cells (dcells d) 88)).alloc (.cells #[.int .i64 op, .int .i64 kd, .int .i64 k1, .int .i64 k2, .int .i32 imm] 110)).alloc (.cells (dcells did0) 88)).cell? ⟨w.heap.size + 1, 3, none⟩ = some (.int .i64 k2) := by go_cell
  have q4 : (((w.alloc (.cells (dcells d) 88)).alloc (.cells #[.int .i64 op, .int .i64 kd, .int .i64 k1, .int .i64 k2, .int .i32 imm] 110)).alloc (.cells (dcells did0) 88)).cell? ⟨w.heap.size + 1, 4, none⟩ = some (.int .i32 imm) := by go_cell
  generalize ((w.alloc (.cells (dcells d) 88)).alloc (.cells #[.int .i64 op, .int .i64 kd, .int .i64 k1, .int .i64 k2, .int .i32 imm] 110)).alloc (.cells (dcells did0) 88) = w1 at *
  have c37 : w1.cell? ⟨w.heap.size, 37, none⟩ = some d.vm := hD.get (dlist_t d_ok.len 0)
  have HD := lI hD
  clear hD hold
  go_upto_region 18 with (go_at_call 40; refine (HL.out _ (HC.out.m.below hb0)).mono ?_; rintro e w2 ⟨rfl, rfl⟩)
  go_upto_region 19 with (go_at_call 83; refine (HAM.out _).mono ?_; rintro e w3 ⟨rfl, nn, rfl⟩)
  have HDn := lI (HD.out.drewN nn)
  have r1 : (w1.drewN nn).cell? ⟨w.heap.size + 1, 1, none⟩ = some (.int .i64 kd) := q1
  have hbz : Below w.heap.size w (w1.drewN nn) := below_drewN hb0 _
  have hszn : (w1.drewN nn).heap.size = w.heap.size + 3 := hs0
  generalize w1.drewN nn = wz at *
  have hm1 : Ints .u8 wz d.vm c.m := HC.out.m.below hbz
  go_wp2_with (first | (refine wpList_load_at rfl 88 _ rfl (w.heap.size) 0 rfl (dcells d) _ HDn.out.at_ Try.underlying88 rfl (did_size d_ok) ?_))
  refine (store4_yes d d_ok c.m 18 a x _ hm1 HA.out HX.out wf.mlen (by rw [store_load]; exact hq)).mono ?_
  rintro e w2 ⟨v', rfl, hv', hfr', hb2⟩
  have hsz2 := hb2.size
  obtain ⟨d2, hd2⟩ : ∃ d2, d2 = ({ d with vm := v', fr := a, many := msize 18 } : DidD) := ⟨_, rfl⟩
  have d2_ok : d2.Ok := by rw [hd2]; exact ⟨d_ok.len, hv'.one, d_ok.o1⟩
  rw [← hd2]
  have HB2 := HDn.out.below om om hb2
  have htB := HB2.thereB d_ok d2_ok
  have HD2 := lI (HB2.put d_ok d2_ok)
  have hbe := below_setCells (b := w.heap.size) (Nat.le_refl _) (dcells d2).toList 0 _ (hbz.trans (hb2.mono om))
  have r2 : (w2.setCells w.heap.size 0 (dcells d2).toList).cell? ⟨w.heap.size + 1, 1, none⟩ = some (.int .i64 kd) := (World.cell?_setCells_out _ _ _ _ _ (fun hb _ => absurd hb zH)).trans ((hb2.cell (p := ⟨w.heap.size + 1, 1, none⟩) yK).trans r1)
  have hv2 : Ints .u8 (w2.setCells w.heap.size 0 (dcells d2).toList) v' (mStore c.m 18 a x) := sl_setCells (fresh_ne hfr' om) _ _ _ hv'
  have hs2w : w.heap.size + 3 ≤ (w2.setCells w.heap.size 0 (dcells d2).toList).heap.size := by rw [size_setCells]; omega
  have HFR : Hid (∀ q, v'.ownBlock = some q → w.heap.size + 3 ≤ q) := lI (fun q e => by have := hfr' q e; omega)
  have HD2E := lI hd2
  clear hb2 q0 q1 q2 q3 q4 r1 hd2 HB2 hm1 hv' hfr'
  go_upto_region 20 with (first | (refine wpList_store_mid rfl 88 _ _ rfl w.heap.size 0 (dcells d2) rfl rfl htB (did_size d2_ok) (dlist_all d2_ok) ?_))
  generalize w2.setCells w.heap.size 0 (dcells d2).toList = wy at *
  go_wp2_with (first | (refine wpList_load_at rfl 88 _ rfl (w.heap.size) 0 rfl (dcells d2) _ HD2.out.at_ Try.underlying88 rfl (did_size d2_ok) ?_))
  refine (set4_any d2 d2_ok kd hk old _).mono ?_
  rintro e w3 ⟨rfl, hb3⟩
  have HD3 := lI (HD2.out.below om om hb3)
  have d3_ok : (d2.set kd old).Ok := d2_ok.setReg _ _
  have hbf := hbe.trans (hb3.mono om)
  have hv3 := hv2.below hb3
  clear hb3 r2
  have ht : (w3).there (w.heap.size + 2) 0 (dcells (d2.set kd old)).size := by rw [dcells_size d3_ok]; exact HD3.out.there
  have hld := load_setCells (P := Try.prog) ht Try.underlying88 rfl (did_size d3_ok)
  go_wp2_with (first | (refine wpList_store_mid rfl 88 _ _ rfl (w.heap.size + 2) 0 (dcells (d2.set kd old)) rfl rfl ht (did_size d3_ok) (dlist_all d3_ok) ?_))
  refine bodyPost_ret (results_c1t zE _ zE hld) rfl ⟨_, rfl, ?_, .inr ?_, ?_, below_setCells om _ _ _ hbf⟩
  · rw [HD2E.out]
    have hF := below_setCells (b := w.heap.size + 2) om (dcells (d2.set kd old)).toList 0 _ hbf
    rw [HD2E.out] at hF
    have hv4 := sl_setCells (fresh_ne HFR.out (by omega : w.heap.size + 2 < w.heap.size + 3)) (dcells (d2.set kd old)).toList 0 _ hv3
    rw [HD2E.out] at hv4
    exact ((HC.out.below hF).put (op := 18) (by rw [store_load]; exact hq) HA.out hl hv4).set kd old
  · rw [HD2E.out]; exact fun q e => Nat.le_of_lt (Nat.lt_of_lt_of_le om (HFR.out q e))
  · rw [HD2E.out]; rfl
end Go.Proofs.Ytlfnddmncbkjaac.W
namespace Go.Proofs.Ytlfnddmncbkjaac.Fb
open Go.RowKit
theorem list32 {l : List Int} (h : l.length = 32) : ∃ a0 a1 a2 a3 a4 a5 a6 a7 a8 a9 a10 a11 a12 a13 a14 a15 a16 a17 a18 a19 a20 a21 a22 a23 a24 a25 a26 a27 a28 a29 a30 a31 : Int, l = [a0, a1, a2, a3, a4, a5, a6, a7, a8, a9, a10, a11, a12, a13, a14, a15, a16, a17, a18, a19, a20, a21, a22, a23, a24, a25, a26, a27, a28, a29, a30, a31] := by
  match l, h with
  | [a0, a1, a2, a3, a4, a5, a6, a7, a8, a9, a10, a11, a12, a13, a14, a15, a16, a17, a18, a19, a20, a21, a22, a23, a24, a25, a26, a27, a28, a29, a30, a31], _ => exact ⟨a0, a1, a2, a3, a4, a5, a6, a7, a8, a9, a10, a11, a12, a13, a14, a15, a16, a17, a18, a19, a20, a21, a22, a23, a24, a25, a26, a27, a28, a29, a30, a31, rfl⟩
theorem wpList_buildV {P : Program} {ops : Array Oper} {rest : List Oper} {o : Oper} {a : Act} {w : World} {Q : Exit → Act → World → Prop} (hgd : o.guard = none) (t : TypeId) (ps : Array (Nat × Operand)) (ho : o.op = .build t ps) (vs : Array (Nat × Value)) (hv : (ps.map fun (i, x) => (i, a.eval x)) = vs)
    (v : Value) (hr : (Instr.build t vs).run P w = .ok v w) (h : wpList P ops Q rest (a.put o.dst v) w) : wpList P ops Q (o :: rest) a w :=
  wpList_plain hgd fun K hK => by
    unfold Oper.wp execOp
    simp only [ho, hv, Sem.run_bind, hr, Result.andThen_ok]
    exact hK _ _ h
end Go.Proofs.Ytlfnddmncbkjaac.Fb
namespace Go.Proofs.Ytlfnddmncbkjaac.W
open Go.RowKit Fb
theorem build_did (h : Hart) (wf : h.regs.length = 32) (v : Value) (hv : v.oneCell' = true) (ao : Option Addr) (n cap : Nat) (hs : v = .slice ao n cap) (w : World) : (Instr.build 88 #[(0, .agg (hcells h)), (1, v)]).run Try.prog w = .ok (.agg (dcells ⟨h, v, .slice none 0 0, 0, 0⟩)) w := by
  subst hs
  obtain ⟨regs, pc, held, heldAt, state, cause⟩ := h
  obtain ⟨a0, a1, a2, a3, a4, a5, a6, a7, a8, a9, a10, a11, a12, a13, a14, a15, a16, a17, a18, a19, a20, a21, a22, a23, a24, a25, a26, a27, a28, a29, a30, a31, rfl⟩ := list32 wf
  kernel_rfl
end Go.Proofs.Ytlfnddmncbkjaac.W
namespace Go.Proofs.Ytlfnddmncbkjaac.Fb
open Go.RowKit
theorem EngOk.abs {m : List Int} {room : Int} {l l' : List BlkD} (h : EngOk m room l) (e : l'.map BlkD.abs = l.map BlkD.abs) : EngOk m room l' := by
  have hl := len_abs e
  refine ⟨h.room0, h.room1, by rw [hl]; exact h.len, by rw [pcs_abs e]; exact h.nodup, fun x hx => ?_⟩
  obtain ⟨y, hy, e2⟩ := List.mem_map.1 (show x.abs ∈ l.map BlkD.abs by rw [← e]; exact List.mem_map_of_mem hx)
  have e3 : y.pc = x.pc ∧ y.ins = x.ins := by unfold BlkD.abs at e2; injection e2 with a b; exact ⟨a, b⟩
  rw [← e3.1, ← e3.2]; exact h.kept y hy
theorem Wk.shownH {bp bh hc cp k : Nat} {vm vo : Value} {ty : TypeId} {o0 o : List Int} {fr tw : Int} {w : World} {s : St} (h : Wk bp bh hc cp k vm vo ty o0 o fr tw w s) (hw : ∀ x ∈ s.harts, x.Wf) : Sl w (.slice (some ⟨bh, 0, none⟩) s.harts.length hc) 37 s.harts.length (s.harts.flatMap hlist) := by
  refine ⟨?_, _, hc, rfl, h.hcap.1, h.hcap.2, (by intro e; cases e), fun a ha _ => ?_⟩
  · have : ∀ l : List Hart, (∀ x ∈ l, x.Wf) → (l.flatMap hlist).length = l.length * 37 := fun l => by
      induction l with
      | nil => intro _; rfl
      | cons x r ih =>
        intro hx
        rw [List.flatMap_cons, List.length_append, hlist_length (hx x zH), ih (fun y hy => hx y yQ), List.length_cons]
        omega
    exact this s.harts hw
  · cases ha; exact ⟨rfl, h.harts⟩
theorem sl_fr {S : Nat → Prop} {w w' : World} {v : Value} {s n : Nat} {xs : List Value} (h : Sl w v s n xs) (hF : Fr S w w') (hS : ∀ q, v.ownBlock = some q → ¬ S q) : Sl w' v s n xs := by
  obtain ⟨h1, a1, cap1, rfl, h3, h4, h5, h6⟩ := h
  refine ⟨h1, a1, cap1, rfl, h3, h4, h5, fun a ha hne => ?_⟩
  obtain ⟨h7, h8⟩ := h6 a ha hne
  have hp : 0 < xs.length := List.length_pos_iff.2 hne
  exact ⟨h7, fun j hj => (cell_block (hF.block a.block (lt_of_cell (p := ⟨a.block, a.off + 0, none⟩) (h8 0 hp)) (hS _ (by rw [ha]; rfl))) _).trans (h8 j hj)⟩
theorem step_buildSlice1 {P : Program} {w : World} {ops : Array Oper} {o : Oper} {a : Act} {K : Act → World → Prop} {Q : Exit → Act → World → Prop} {E : Prop} (hgd : o.guard = none) (t : TypeId) (x : Operand)
    (ho : o.op = .buildSlice t 1 #[(0, x)]) (v : Value) (hx : a.eval x = v) (w' : World) (y : Value)
    (hr : (Instr.buildSlice t 1 #[(0, v)]).run P w = .ok y w') (h : K (a.put o.dst y) w') :
    if Region.wanted o (yielded ops a.tmps) = true then Oper.wp P o a w K Q else E := by
  have hw : Region.wanted o (yielded ops a.tmps) = true := by simp [Region.wanted, hgd]
  rw [if_pos hw]
  unfold Oper.wp execOp
  simp only [ho, Sem.run_bind, Sem.run_pure, Result.andThen_ok, List.map_toArray, List.map_cons, List.map_nil, hx, hr]
  exact h
theorem Wk.kept {bp bh hc cp k : Nat} {vm vo : Value} {ty : TypeId} {o0 o : List Int} {fr tw : Int} {w w' : World} {s : St} (h : Wk bp bh hc cp k vm vo ty o0 o fr tw w s) (hs : w.heap.size ≤ w'.heap.size) (hk : ∀ q, q < w.heap.size → (q = bp ∨ q = bh ∨ q = cp ∨ vm.ownBlock = some q ∨ ∃ cs f, w.heap[q]? = some (.cells cs ty f)) → w'.heap[q]? = w.heap[q]?) : Wk bp bh hc cp k vm vo ty o0 o fr tw w' s := by
  have b1 := h.b1
  have b2 := h.b2
  have hlt := h.clt
  have e := hk bp om (.inl rfl)
  have eh := hk bh om (.inr (.inl rfl))
  have ec := hk cp hlt (.inr (.inr (.inl rfl)))
  have em : ∀ g, vm.ownBlock = some g → w'.heap[g]? = w.heap[g]? := fun g hg => hk g (by have := h.mlt g hg; omega) (.inr (.inr (.inr (.inl hg))))
  refine ⟨⟨h.core.hbl, (cell_block ec _).trans h.core.ptr, (cell_block ec _).trans h.core.mem, (cell_block ec _).trans h.core.fr, (cell_block ec _).trans h.core.tw, fun o => (frozen_block ec o).trans (h.core.frz o), fun j hj => (cell_block eh _).trans (h.core.hart j hj), fun o => (frozen_block eh o).trans (h.core.hfz o), sl_block h.core.bytes em, fun b off n c e => ?_, ?_, h.core.mlt⟩, h.b1, h.b2, (cell_block e _).trans h.c0, (cell_block e _).trans h.c1, (cell_block e _).trans h.c2, (cell_block e _).trans h.c3, fun o => (frozen_block e o).trans (h.frz o), fun j hj => (cell_block eh _).trans (h.harts j hj), h.mlt, owns_block h.own (fun g hg => hk g (h.own.lt g hg).2 (.inr (.inr (.inr (.inr (own_ty h.own hg)))))), h.vlt, h.kl, h.hcap⟩
  · obtain ⟨x1, x2, x3, x4⟩ := h.core.mfz b off n c e
    exact ⟨x1, x2, om, fun o => (frozen_block (em b zX) o).trans (x4 o)⟩
  · obtain ⟨vo', y1, y2⟩ := h.core.row
    exact ⟨vo', (cell_block ec _).trans y1, owns_block y2 (fun g hg => hk g (y2.lt g hg).2 (.inr (.inr (.inr (.inr (own_ty y2 hg))))))⟩
def UpA (A : Nat → Prop) (v : Value) (us : List UndD) : Prop := (∀ q, v.ownBlock = some q → A q) ∧ ∀ x ∈ us, (∀ q, x.vb.ownBlock = some q → A q) ∧ ∀ q, x.vl.ownBlock = some q → A q
end Go.Proofs.Ytlfnddmncbkjaac.Fb
namespace Go.Proofs.Ytlfnddmncbkjaac.W
open Go.RowKit Fb
structure Rc (rp bp : Nat) (w : World) (v : Value) (us : List UndD) : Prop where
  ty : ∃ cs f, w.heap[rp]? = some (.cells cs 85 f)
  at_ : At w rp 0 [.pointer (some ⟨bp, 0, none⟩), v]
  frz : ∀ o, w.frozen? ⟨rp, o, none⟩ = false
  up : Up (rp + 1) 93 5 95 w v us
theorem Rc.kept {A : Nat → Prop} {rp bp : Nat} {w w' : World} {v : Value} {us : List UndD} (h : Rc rp bp w v us) (hA : UpA A v us) (hk : ∀ q, q < w.heap.size → (q = rp ∨ (rp < q ∧ A q ∧ ∀ cs f, w.heap[q]? ≠ some (.cells cs 58 f))) → w'.heap[q]? = w.heap[q]?) : Rc rp bp w' v us := by
  obtain ⟨cs, f, ht⟩ := h.ty
  have e0 := hk rp (heap_lt ht) (.inl rfl)
  refine ⟨⟨cs, f, e0.trans ht⟩, fun j hj => (cell_block e0 _).trans (h.at_ j hj), fun o => (frozen_block e0 o).trans (h.frz o), ?_⟩
  refine ⟨owns_block h.up.own (fun g hg => ?_), h.up.wf, fun x hx => owns_block (h.up.byt x hx) (fun g hg => ?_), fun x hx => owns_block (h.up.los x hx) (fun g hg => ?_)⟩
  · obtain ⟨cs, f, e⟩ := own_ty h.up.own hg
    exact hk g (heap_lt e) (.inr ⟨(h.up.own.lt g hg).1, hA.1 g hg, fun cs2 f2 e2 => by rw [e] at e2; cases e2⟩)
  · obtain ⟨cs, f, e⟩ := own_ty (h.up.byt x hx) hg
    exact hk g (heap_lt e) (.inr ⟨((h.up.byt x hx).lt g hg).1, (hA.2 x hx).1 g hg, fun cs2 f2 e2 => by rw [e] at e2; cases e2⟩)
  · obtain ⟨cs, f, e⟩ := own_ty (h.up.los x hx) hg
    exact hk g (heap_lt e) (.inr ⟨((h.up.los x hx).lt g hg).1, (hA.2 x hx).2 g hg, fun cs2 f2 e2 => by rw [e] at e2; cases e2⟩)
def UndS (rp bp bh cp : Nat) (vm v : Value) (j : Nat) : Prop := j = rp ∨ j = bp ∨ j = bh ∨ vm.ownBlock = some j ∨ v.ownBlock = some j ∨ cp ≤ j
def UStepPost (rp bp bh hc cp k : Nat) (vm vo : Value) (o0 o : List Int) (w : World) (s : St) (v : Value) (us : List UndD) (e : Ending) (w' : World) : Prop :=
  e = .returned (.tuple #[]) ∧ ∃ (v' : Value) (x : UndD), x.d = undoOf k s ∧ Wk bp bh hc cp k vm vo 58 o0 (o ++ (stepC k s).out) (stepC k s).fr (stepC k s).tw w' (goM k s) ∧ Rc rp bp w' v' (us ++ [x]) ∧ UpA (fun q => q ≠ cp) v' (us ++ [x]) ∧ Fr (UndS rp bp bh cp vm v) w w'
theorem info_lost : (Try.prog.info? 95).map (fun i => (i.zero, i.size, i.bytes)) = some (some (.agg #[.int .i64 0, .int .u32 0]), 2, 16) := by kernel_rfl
theorem info_undo : (Try.prog.info? 93).map (fun i => (i.zero, i.size, i.bytes)) = some (some (.agg (Value.int .i64 0 :: (hlist hart0 ++ [.int .u32 0, .slice none 0 0, .slice none 0 0])).toArray), 41, 224) := by kernel_rfl
theorem build_undo (k : Int) (h : Hart) (wf : h.regs.length = 32) (w : World) : (Instr.build 93 #[(0, .int .i64 k), (1, .agg (hcells h))]).run Try.prog w = .ok (.agg (.int .i64 k :: (hlist h ++ [.int .u32 0, .slice none 0 0, .slice none 0 0])).toArray) w := by
  obtain ⟨regs, pc, held, heldAt, state, cause⟩ := h
  obtain ⟨a0, a1, a2, a3, a4, a5, a6, a7, a8, a9, a10, a11, a12, a13, a14, a15, a16, a17, a18, a19, a20, a21, a22, a23, a24, a25, a26, a27, a28, a29, a30, a31, rfl⟩ := list32 wf
  kernel_rfl
theorem buildSlice_undo (k : Int) (h : Hart) (wf : h.regs.length = 32) (a b c : Value) (w : World) : (Instr.buildSlice 41 1 #[(0, .agg (Value.int .i64 k :: (hlist h ++ [a, b, c])).toArray)]).run Try.prog w = .ok (.slice (some ⟨w.heap.size, 0, none⟩) 1 1) (w.alloc (.cells (Value.int .i64 k :: (hlist h ++ [a, b, c])).toArray 93)) := by
  obtain ⟨regs, pc, held, heldAt, state, cause⟩ := h
  obtain ⟨a0, a1, a2, a3, a4, a5, a6, a7, a8, a9, a10, a11, a12, a13, a14, a15, a16, a17, a18, a19, a20, a21, a22, a23, a24, a25, a26, a27, a28, a29, a30, a31, rfl⟩ := list32 wf
  kernel_rfl
theorem core_any {bp bh hc : Nat} {vm vo : Value} {s : St} (k : Nat) (w : World) (h : Bd bp bh hc vm vo 58 w s) (hk : k < s.harts.length) (h4 : s.harts.length ≤ 4) :
    Calls Try.prog 27 #[.pointer (some ⟨bp, 0, none⟩), .int .i64 k] w fun e w' => ∃ n, e = .returned (.pointer (some ⟨w.heap.size, 0, none⟩)) ∧ w' = (w.alloc (.cells #[.pointer (some ⟨bh, k * 37, none⟩), vm, .slice none 0 0, .int .u32 0, .int .u32 0] 76)).drewN n := by
  have c0 := h.c0
  have c1 := h.c1
  obtain ⟨ao, cap, rfl, _⟩ := h.bytes.open
  have hlt := h.lt
  have i0 : (0 : Int) ≤ (k : Int) := om
  have i1 : (k : Int) < (s.harts.length : Int) := om
  have hcp := h.hcap
  have hcc := hcp.2
  unfold maxLen at hcc
  go_enter Try.func27, Try.ntmps27
  go_wp2_with fail
  go_region
  all_goals
    go_wp2_with fail
    go_ret
    first
    | exact ⟨_, rfl, rfl⟩
    | exact ⟨0, rfl, rfl⟩
    | exact ⟨1, rfl, rfl⟩
theorem stored_any {bp bh hc : Nat} (k : Nat) (fr tw : Int) (hs : List Hart) (w : World) (c1 : w.cell? ⟨bp, 1, none⟩ = some (.slice (some ⟨bh, 0, none⟩) hs.length hc)) (hat : At w bh 0 (hs.flatMap hlist)) (hfz : ∀ o, w.frozen? ⟨bh, o, none⟩ = false) (hne : bh ≠ bp)
    (wf : ∀ h ∈ hs, h.Wf) (h4 : hs.length ≤ 4) (hcap : hs.length ≤ hc ∧ hc ≤ maxLen) (hfr : U32 fr) (htw : U32 tw) :
    Calls Try.prog 29 #[.pointer (some ⟨bp, 0, none⟩), .int .i64 k, .int .u32 fr, .int .u32 tw] w fun e w' => e = .returned (.tuple #[]) ∧ At w' bh 0 ((loseTo k fr tw hs.length hs).flatMap hlist) ∧ Chg (fun p => p.block = bh) w w' := by
  obtain ⟨hc1, hc2⟩ := hcap
  unfold maxLen at hc2
  have hlt := lt_of_cell c1
  have HAT := lI hat
  have HFZ := lI hfz
  have HWF := lI wf
  have HLB : Hid (0 < hs.length → bh < w.heap.size) := lI (fun h0 => by
    have := at_hart hat (fun x hx => hlist_length (wf x hx)) h0
    exact lt_of_cell (this.get (hlist_held (wf _ (List.getElem_mem h0)))))
  clear hat hfz wf
  go_enter Try.func29, Try.ntmps29
  go_wp2_with fail
  go_loopw [17] (fun i wr => ∃ n : Nat, i = .int .i64 n ∧ n ≤ hs.length ∧ Hid (At wr bh 0 ((loseTo k fr tw n hs).flatMap hlist) ∧ Chg (fun p => p.block = bh) w wr)) (fun i _ => hs.length - (intOf i).toNat)
  case atStart => exact ⟨0, rfl, om, lI ⟨by rw [loseTo_zero]; exact HAT.out, Chg.refl _ _⟩⟩
  case round =>
    obtain ⟨n, rfl, hn, HR⟩ := hrel
    have c1' := (HR.out.2.cell ⟨bp, 1, none⟩ hlt (by show ¬ bp = bh; omega)).trans c1
    by_cases hlt2 : n < hs.length
    · have hel := at_hart HR.out.1 (fun x hx => hlist_length (mem_loseTo (P := Hart.Wf) HWF.out (fun _ => lose_wf) x hx)) (by rw [loseTo_len]; exact hlt2)
      rw [loseTo_at _ _ _ hlt2] at hel
      have whn := HWF.out hs[n] (List.getElem_mem hlt2)
      have g33 := hel.get (hlist_held whn)
      have g34 := hel.get (hlist_heldAt whn)
      have l33 : bh < wr.heap.size := lt_of_cell g33
      have f33 : wr.frozen? ⟨bh, n * 37 + 33, none⟩ = false := (HR.out.2.frozen ⟨bh, n * 37 + 33, none⟩ (HLB.out om)).trans (HFZ.out _)
      have f34 : wr.frozen? ⟨bh, n * 37 + 34, none⟩ = false := (HR.out.2.frozen ⟨bh, n * 37 + 34, none⟩ (HLB.out om)).trans (HFZ.out _)
      have i0 : (0 : Int) ≤ (n : Int) := om
      have i1 : (n : Int) < (hs.length : Int) := om
      have HNX : Hid (∀ x, x = lose fr tw hs[n] → n ≠ k → loseTo k fr tw (n + 1) hs = (loseTo k fr tw n hs).set n x) := lI (fun x e hk => by rw [e]; exact loseTo_succ fr tw hs hlt2 hk)
      have HSE : Hid (n = k → loseTo k fr tw (n + 1) hs = loseTo k fr tw n hs) := lI (fun e => by subst e; exact loseTo_self n fr tw hs)
      have HKP : Hid (lose fr tw hs[n] = hs[n] → loseTo k fr tw (n + 1) hs = loseTo k fr tw n hs) := lI (fun e => loseTo_keep fr tw hs hlt2 e)
      have HLO : Hid (lose fr tw hs[n] = if (hs[n].held && decide (fr < (hs[n].heldAt + 4) % 4294967296) && decide (hs[n].heldAt < tw)) = true then { hs[n] with held := false, heldAt := 0 } else hs[n]) := lI rfl
      have hha : U32 hs[n].heldAt := whn.heldAt
      have HEL := lI hel
      have HWN := lI whn
      clear hel whn
      obtain ⟨x, hx⟩ : ∃ x, x = hs[n] := ⟨_, rfl⟩
      rw [← hx] at g33 g34 HNX HKP HLO hha HEL HWN
      have HX := lI hx
      clear hx
      obtain ⟨ha1, ha2⟩ := hha
      obtain ⟨fr1, fr2⟩ := hfr
      obtain ⟨tw1, tw2⟩ := htw
      by_cases hnk : (n : Int) = k
      · go_wp2_with fail
        go_roundw
        case rel => exact ⟨n + 1, by (first | (simp; done) | (simp; omega)), om, lI ⟨by rw [HSE.out om]; exact HR.out.1, HR.out.2⟩⟩
        case measure => simp [intOf]; omega
      cases hheld : x.held with
      | false =>
        rw [hheld] at g33
        go_wp2_with fail
        go_roundw
        case rel => exact ⟨n + 1, by simp, om, lI ⟨by rw [HKP.out (by rw [HLO.out, hheld]; rfl)]; exact HR.out.1, HR.out.2⟩⟩
        case measure => simp [intOf]; omega
      | true =>
        rw [hheld] at g33
        by_cases h1 : fr < (x.heldAt + 4) % 4294967296
        · by_cases h2 : x.heldAt < tw
          · go_wp2_with fail
            go_roundw
            case rel =>
              have wx := HWN.out
              have hxl : (hlist x).length = 37 := hlist_length wx
              have a1 := HEL.out.set 33 om (.bool false)
              rw [← hlist_setHeld wx.len false] at a1
              have wx2 : ({ x with held := false } : Hart).Wf := ⟨wx.len, wx.regs, wx.pc, wx.heldAt, wx.state, wx.cause⟩
              have a2 := a1.set 34 (by rw [hlist_length wx2]; omega) (.int .u32 0)
              rw [← hlist_setHeldAt (h := ({ x with held := false } : Hart)) wx.len 0] at a2
              have wx3 : ({ x with held := false, heldAt := 0 } : Hart).Wf := ⟨wx.len, wx.regs, wx.pc, (⟨by decide, by decide⟩ : U32 0), wx.state, wx.cause⟩
              refine ⟨n + 1, by simp, om, lI ⟨?_, (HR.out.2.setCell ⟨bh, n * 37 + 33, none⟩ (.bool false) (fun _ => rfl)).setCell ⟨bh, n * 37 + 34, none⟩ (.int .u32 0) (fun _ => rfl)⟩⟩
              rw [HNX.out { x with held := false, heldAt := 0 } (by rw [HLO.out, hheld]; simp [h1, h2]) om]
              refine at_harts_set HR.out.1 (fun x hx => hlist_length (mem_loseTo (P := Hart.Wf) HWF.out (fun _ => lose_wf) x hx)) (hlist_length wx3) a2 (fun o ho => ?_)
              rw [World.cell?_setCell_other _ _ _ _ zF, World.cell?_setCell_other _ _ _ _ zF]
            case measure => simp [intOf]; omega
          · go_wp2_with fail
            go_roundw
            case rel => exact ⟨n + 1, by simp, om, lI ⟨by rw [HKP.out (by rw [HLO.out, hheld]; simp [h2])]; exact HR.out.1, HR.out.2⟩⟩
            case measure => simp [intOf]; omega
        · go_wp2_with fail
          go_roundw
          case rel => exact ⟨n + 1, by simp, om, lI ⟨by rw [HKP.out (by rw [HLO.out, hheld]; simp [h1])]; exact HR.out.1, HR.out.2⟩⟩
          case measure => simp [intOf]; omega
    · obtain rfl : n = hs.length := om
      go_wp2_with fail
      go_end0
      exact ⟨rfl, HR.out.1, HR.out.2⟩
theorem info_bytes : (Try.prog.info? 5).map (fun i => (i.zero, i.size, i.bytes)) = some (some (.int .u8 0), 1, 1) := by kernel_rfl
theorem clone_bytes (v : Value) (n : Nat) (xs : List Value) (w : World) (hv : Sl w v 1 n xs) (h1c : ∀ u ∈ xs, u.oneCell' = true) (hr : n * 1 ≤ 140737488355328) :
    Calls Try.prog 44 #[v] w fun e w' => (∃ v', e = .returned v' ∧ w'.ownsRow w.heap.size 5 1 v' n xs ∧ (v' = .slice none 0 0 → v = .slice none 0 0)) ∧ Below w.heap.size w w' := by
  obtain ⟨hlen, ao, cap, rfl, hnc, hcm, hnone, hat⟩ := hv
  have heq := fun (W : World) (m c : Nat) => Lib.run_eql_slice_nil (P := Try.prog) W 22 5 ao m c 0 0 Try.underlying22
  unfold maxLen at hcm
  cases ao with
  | none =>
    obtain rfl : cap = 0 := hnone rfl
    obtain rfl : n = 0 := om
    obtain rfl : xs = [] := List.eq_nil_of_length_eq_zero (by simpa using hlen)
    clear hnone hat
    go_enter Try.func44, Try.ntmps44
    go_wp2
    go_ret
    exact ⟨⟨_, rfl, World.ownsRow_nil _ _ _ _, by simp⟩, Below.refl _ _⟩
  | some a =>
    obtain ⟨i0, hi, hz0, hz1, hz2⟩ := info_parts info_bytes
    clear hnone
    have HAT := lI hat
    have HL := lI hlen
    have HC := lI h1c
    clear hat hlen h1c
    go_enter Try.func44, Try.ntmps44
    go_wp2_with (at_builtin; refine wpList_append_own _ rfl _ _ 22 rfl w.heap.size 5 i0 (.int .u8 0) 1 1 Try.underlying22 hi hz0 hz1 hz2 rfl zN _ 0 [] rfl ?_ a n cap xs rfl HL.out ?_ HC.out ?_ ?_ ?_ ?_)
    rotate_right
    · intro v' w1 hown hgrow hnil
      go_wp2
      go_ret
      refine ⟨⟨_, rfl, ?_, ?_⟩, ?_⟩
      · simpa using hown
      · intro h
        exact (hnil h).elim
      · exact (Below.alloc br (Nat.le_refl _) _).grown hgrow zH yE
    all_goals (first | (unfold maxLen; omega) | omega | (simp; done) | skip)
    · exact ownsRow_built _ _ _ _ (Nat.le_refl _)
    · intro j u hu
      have hj : j < xs.length := (List.getElem?_eq_some_iff.1 hu).1
      have hne : xs ≠ [] := by intro e; rw [e] at hj; simp at hj
      have h3 := (HAT.out a rfl hne)
      have h4 := h3.2 j hj
      have hu2 : u = xs[j] := by rw [List.getElem?_eq_getElem hj] at hu; exact (Option.some.inj hu).symm
      rw [hu2, addr_add a h3.1, World.cell?_alloc_lt _ _ _ (lt_of_cell h4)]
      exact h4
end Go.Proofs.Ytlfnddmncbkjaac.W
