import Derived.Test.YtlfnddmncbkjaabZMB
import Derived.Test.YtlfnddmncbkjaabZZA
import Derived.Test.YtlfnddmncbkjaabZMA
set_option linter.unusedVariables false
set_option linter.unusedSimpArgs false
set_option maxRecDepth 100000
set_option maxHeartbeats 4000000
namespace Go.Proofs.Ytlfnddmncbkjaab.W
open Go.RowKit Fb
theorem info_did : (Try.prog.info? 76).map (·.size) = some 41 := by kernel_rfl
theorem did_size {d : DidD} (h : d.Ok) : (Try.prog.info? 76).map (·.size) = some (dcells d).size := by rw [dcells_size h]; exact info_did
theorem sum4_any (a b : Int) (w : World) (ha : U32 a) (hb : U32 b) : Calls Try.prog 88 #[.int .u32 a, .int .u32 b] w fun e w' => e = .returned (.int .u32 ((a + b) % 4294967296)) ∧ ∃ n, w' = w.drewN n := by
  have H := Lib.hid (fun W => alu1_any 28 a b W ha.1 ha.2 hb.1 hb.2)
  have e : alu 28 a b = (a + b) % 4294967296 := rfl
  rw [e] at H
  go_enter Try.func88, Try.ntmps88
  go_wp2_with fail
  refine (H.out _).mono ?_
  rintro e w' ⟨rfl, n, rfl⟩
  go_wp2_with fail
  go_ret
  exact ⟨rfl, n, rfl⟩
theorem operation4_any (op : Int) (w : World) (hop : 19 ≤ op ∧ op ≤ 27) : Calls Try.prog 91 #[.int .i64 op] w fun e w' => e = .returned (.int .i64 (immOp op)) ∧ w = w' := by
  have ho : op = 19 ∨ op = 20 ∨ op = 21 ∨ op = 22 ∨ op = 23 ∨ op = 24 ∨ op = 25 ∨ op = 26 ∨ op = 27 := by omega
  rcases ho with rfl | rfl | rfl | rfl | rfl | rfl | rfl | rfl | rfl
  all_goals
    go_enter Try.func91, Try.ntmps91
    go_wp2_with fail
    go_ret
    exact ⟨rfl, rfl⟩
theorem set4_any (d : DidD) (hd : d.Ok) (k : Nat) (hk : k < 32) (x : Int) (w : World) :
    Calls Try.prog 89 #[.agg (dcells d), .int .i64 k, .int .u32 x] w fun e w' => e = .returned (.agg (dcells (d.set k x))) ∧ Below w.heap.size w w' := by
  by_cases hk0 : k = 0
  · subst hk0
    have e : d.set ((0 : Nat) : Int) x = d := by simp [DidD.set, Hart.setReg]
    rw [e]
    go_enter Try.func89, Try.ntmps89
    go_upto_region 1 with (fail)
    show Code.wp _ _ _ _ ((w.alloc (.cells (dcells d) 76)).alloc (.cells (dcells did0) 76))
    have hD := DBox.begin (w := w) (tD := 76) (d := d) (z := dcells did0) (dcells_size did0_ok)
    have hb0 : Below w.heap.size w ((w.alloc (.cells (dcells d) 76)).alloc (.cells (dcells did0) 76)) := Fb.blw
    have hs0 : ((w.alloc (.cells (dcells d) 76)).alloc (.cells (dcells did0) 76)).heap.size = w.heap.size + 2 := by simp
    generalize (w.alloc (.cells (dcells d) 76)).alloc (.cells (dcells did0) 76) = w1 at *
    have HD := Lib.hid hD
    have hbe := hb0
    have hs2 := did_size hd
    have ht : (w1).there (w.heap.size + 1) 0 (dcells d).size := by rw [dcells_size hd]; exact HD.out.there
    have hall := dlist_all hd
    have hld := load_setCells (P := Try.prog) ht Try.underlying76 rfl hs2
    go_wp2_with (first | (refine wpList_load_at rfl 76 _ rfl w.heap.size 0 rfl (dcells d) _ HD.out.at_ Try.underlying76 rfl hs2 ?_) | (refine wpList_store_mid rfl 76 _ _ rfl (w.heap.size + 1) 0 (dcells d) rfl rfl ht hs2 hall ?_))
    exact bodyPost_ret (results_c1 (by rfl) _ (by rfl) hld) rfl ⟨rfl, below_setCells (by omega) _ _ _ hbe⟩
  · have e : d.set (k : Int) x = { d with h := { d.h with regs := d.h.regs.set k x } } := by simp [DidD.set, Hart.setReg]; omega
    rw [e]
    obtain ⟨d2, hdd⟩ : ∃ d2, d2 = ({ d with h := { d.h with regs := d.h.regs.set k x } } : DidD) := ⟨_, rfl⟩
    rw [← hdd]
    have hd2 : d2.Ok := by rw [hdd]; exact ⟨by simp [hd.len], hd.m1, hd.o1⟩
    go_enter Try.func89, Try.ntmps89
    go_upto_region 1 with (fail)
    show Code.wp _ _ _ _ ((w.alloc (.cells (dcells d) 76)).alloc (.cells (dcells did0) 76))
    have hD := DBox.begin (w := w) (tD := 76) (d := d) (z := dcells did0) (dcells_size did0_ok)
    have hb0 : Below w.heap.size w ((w.alloc (.cells (dcells d) 76)).alloc (.cells (dcells did0) 76)) := Fb.blw
    have hs0 : ((w.alloc (.cells (dcells d) 76)).alloc (.cells (dcells did0) 76)).heap.size = w.heap.size + 2 := by simp
    generalize (w.alloc (.cells (dcells d) 76)).alloc (.cells (dcells did0) 76) = w1 at *
    have hk1 : (0 : Int) < k := by omega
    have hcell : w1.cell? ⟨w.heap.size, k, none⟩ = some (.int .u32 (d.h.regs.getD k 0)) := hD.get (dlist_h (by
      have : k < d.h.regs.length := by rw [hd.len]; exact hk
      simp [hlist, List.getElem?_append, this]))
    have hfz := hD.frz k
    have HD : Hid (DBox w.heap.size (w.heap.size + 1) 76 (w1.setCell ⟨w.heap.size, k, none⟩ (.int .u32 x)) d2) := Lib.hid (by
      rw [hdd]
      exact hD.set k (.int .u32 x) (by rw [dlist_len hd]; omega) (dlist_setH (hlist_setReg hd.len k hk x) (by rw [hlist_len hd.len]; omega)))
    have hbe := hb0.setCell (p := ⟨w.heap.size, k, none⟩) (Nat.le_refl _) (.int .u32 x)
    clear hD hdd
    go_upto_region 3 with (fail)
    have hs2 := did_size hd2
    have ht : (w1.setCell ⟨w.heap.size, k, none⟩ (.int .u32 x)).there (w.heap.size + 1) 0 (dcells d2).size := by rw [dcells_size hd2]; exact HD.out.there
    have hall := dlist_all hd2
    have hld := load_setCells (P := Try.prog) ht Try.underlying76 rfl hs2
    go_wp2_with (first | (refine wpList_load_at rfl 76 _ rfl w.heap.size 0 rfl (dcells d2) _ HD.out.at_ Try.underlying76 rfl hs2 ?_) | (refine wpList_store_mid rfl 76 _ _ rfl (w.heap.size + 1) 0 (dcells d2) rfl rfl ht hs2 hall ?_))
    exact bodyPost_ret (results_c1 (by rfl) _ (by rfl) hld) rfl ⟨rfl, below_setCells (by omega) _ _ _ hbe⟩
theorem trap4_any (d : DidD) (hd : d.Ok) (c : Int) (w : World) :
    Calls Try.prog 87 #[.agg (dcells d), .int .i64 c] w fun e w' => e = .returned (.agg (dcells (d.trap c))) ∧ Below w.heap.size w w' := by
  obtain ⟨d2, hdd⟩ : ∃ d2, d2 = d.trap c := ⟨_, rfl⟩
  rw [← hdd]
  have hd2 : d2.Ok := by rw [hdd]; exact ⟨hd.len, hd.m1, hd.o1⟩
  go_enter Try.func87, Try.ntmps87
  go_upto_region 1 with (fail)
  show Code.wp _ _ _ _ ((w.alloc (.cells (dcells d) 76)).alloc (.cells (dcells did0) 76))
  have hD := DBox.begin (w := w) (tD := 76) (d := d) (z := dcells did0) (dcells_size did0_ok)
  have hb0 : Below w.heap.size w ((w.alloc (.cells (dcells d) 76)).alloc (.cells (dcells did0) 76)) := Fb.blw
  have hs0 : ((w.alloc (.cells (dcells d) 76)).alloc (.cells (dcells did0) 76)).heap.size = w.heap.size + 2 := by simp
  generalize (w.alloc (.cells (dcells d) 76)).alloc (.cells (dcells did0) 76) = w1 at *
  have h35 := hD.get (dlist_h (hlist_state' hd.len))
  have h36 := hD.get (dlist_h (hlist_cause' hd.len))
  have f35 := hD.frz 35
  have f36 := hD.frz 36
  have HD : Hid (DBox w.heap.size (w.heap.size + 1) 76 ((w1.setCell ⟨w.heap.size, 35, none⟩ (.int .i64 2)).setCell ⟨w.heap.size, 36, none⟩ (.int .i64 c)) d2) := Lib.hid (by
    rw [hdd]
    exact (hD.set (d' := { d with h := { d.h with state := 2 } }) 35 (.int .i64 2) (by rw [dlist_len hd]; omega) (dlist_setH (hlist_setState hd.len 2) (by rw [hlist_len hd.len]; omega))).set 36 (.int .i64 c) (by simp [dlist, dtail, hlist, hd.len]) (dlist_setH (d := { d with h := { d.h with state := 2 } }) (hlist_setCause (h := { d.h with state := 2 }) hd.len c) (by simp [hlist, hd.len])))
  have hbe := (hb0.setCell (p := ⟨w.heap.size, 35, none⟩) (Nat.le_refl _) (.int .i64 2)).setCell (p := ⟨w.heap.size, 36, none⟩) (Nat.le_refl _) (.int .i64 c)
  clear hD hdd
  go_upto_region 3 with (fail)
  have hs2 := did_size hd2
  have ht : ((w1.setCell ⟨w.heap.size, 35, none⟩ (.int .i64 2)).setCell ⟨w.heap.size, 36, none⟩ (.int .i64 c)).there (w.heap.size + 1) 0 (dcells d2).size := by rw [dcells_size hd2]; exact HD.out.there
  have hall := dlist_all hd2
  have hld := load_setCells (P := Try.prog) ht Try.underlying76 rfl hs2
  go_wp2_with (first | (refine wpList_load_at rfl 76 _ rfl w.heap.size 0 rfl (dcells d2) _ HD.out.at_ Try.underlying76 rfl hs2 ?_) | (refine wpList_store_mid rfl 76 _ _ rfl (w.heap.size + 1) 0 (dcells d2) rfl rfl ht hs2 hall ?_))
  exact bodyPost_ret (results_c1 (by rfl) _ (by rfl) hld) rfl ⟨rfl, below_setCells (by omega) _ _ _ hbe⟩
end Go.Proofs.Ytlfnddmncbkjaab.W
namespace Go.Proofs.Ytlfnddmncbkjaab.W
open Go.RowKit Fb
theorem store4_no (d : DidD) (hd : d.Ok) (m : List Int) (op at_ x : Int) (w : World) (hm : Ints .u8 w d.vm m) (ha : U32 at_) (hx : U32 x) (hr : m.length ≤ 140737488351232) (hq : mStoreOk m op at_ = false) :
    Calls Try.prog 90 #[.agg (dcells d), .int .i64 op, .int .u32 at_, .int .u32 x] w fun e w' => e = .returned (.tuple #[.agg (dcells d), .bool false]) ∧ Below w.heap.size w w' := by
  have HM := Lib.hid hm
  have HS := Lib.hid (fun W hW => store3_any d.vm m op at_ x W hW ha hx (by omega))
  rw [hq] at HS
  go_enter Try.func90, Try.ntmps90
  go_upto_region 1 with (fail)
  show Code.wp _ _ _ _ ((w.alloc (.cells (dcells d) 76)).alloc (.cells (dcells did0) 76))
  have hD := DBox.begin (w := w) (tD := 76) (d := d) (z := dcells did0) (dcells_size did0_ok)
  have hb0 : Below w.heap.size w ((w.alloc (.cells (dcells d) 76)).alloc (.cells (dcells did0) 76)) := Fb.blw
  have hs0 : ((w.alloc (.cells (dcells d) 76)).alloc (.cells (dcells did0) 76)).heap.size = w.heap.size + 2 := by simp
  generalize (w.alloc (.cells (dcells d) 76)).alloc (.cells (dcells did0) 76) = w1 at *
  have hc37 : w1.cell? ⟨w.heap.size, 37, none⟩ = some d.vm := hD.get (dlist_t hd.len 0)
  go_wp2_with fail
  refine (HS.out _ (HM.out.below hb0)).mono ?_
  rintro e w2 ⟨⟨v', rfl, _⟩, hb2⟩
  have HD := Lib.hid (hD.below (by omega) (by omega) hb2)
  have hbe := hb0.trans (hb2.mono (by omega))
  clear hD hc37 hb2 hb0
  have hs2 := did_size hd
  have ht : (w2).there (w.heap.size + 1) 0 (dcells d).size := by rw [dcells_size hd]; exact HD.out.there
  have hall := dlist_all hd
  have hld := load_setCells (P := Try.prog) ht Try.underlying76 rfl hs2
  go_wp2_with (first | (refine wpList_load_at rfl 76 _ rfl w.heap.size 0 rfl (dcells d) _ HD.out.at_ Try.underlying76 rfl hs2 ?_) | (refine wpList_store_mid rfl 76 _ _ rfl (w.heap.size + 1) 0 (dcells d) rfl rfl ht hs2 hall ?_))
  exact bodyPost_ret (results_c1t (by rfl) _ (by rfl) hld) rfl ⟨rfl, below_setCells (by omega) _ _ _ hbe⟩
theorem store4_yes (d : DidD) (hd : d.Ok) (m : List Int) (op at_ x : Int) (w : World) (hm : Ints .u8 w d.vm m) (ha : U32 at_) (hx : U32 x) (hr : m.length ≤ 140737488351232) (hq : mStoreOk m op at_ = true) :
    Calls Try.prog 90 #[.agg (dcells d), .int .i64 op, .int .u32 at_, .int .u32 x] w fun e w' => ∃ v', e = .returned (.tuple #[.agg (dcells { d with vm := v', fr := at_, many := msize op }), .bool true]) ∧ Ints .u8 w' v' (mStore m op at_ x) ∧ (∀ q, v'.ownBlock = some q → w.heap.size ≤ q) ∧ Below w.heap.size w w' := by
  have HM := Lib.hid hm
  obtain ⟨ka, rfl⟩ := Int.eq_ofNat_of_zero_le ha.1
  have HS := Lib.hid (fun W hW => store3_yes d.vm m op ka x W hW ha hx hq (by omega))
  have hsz : ssize op = msize op := by unfold ssize; rw [if_pos (by simp [mStoreOk] at hq; exact hq.1)]
  go_enter Try.func90, Try.ntmps90
  go_upto_region 1 with (fail)
  show Code.wp _ _ _ _ ((w.alloc (.cells (dcells d) 76)).alloc (.cells (dcells did0) 76))
  have hD := DBox.begin (w := w) (tD := 76) (d := d) (z := dcells did0) (dcells_size did0_ok)
  have hb0 : Below w.heap.size w ((w.alloc (.cells (dcells d) 76)).alloc (.cells (dcells did0) 76)) := Fb.blw
  have hs0 : ((w.alloc (.cells (dcells d) 76)).alloc (.cells (dcells did0) 76)).heap.size = w.heap.size + 2 := by simp
  generalize (w.alloc (.cells (dcells d) 76)).alloc (.cells (dcells did0) 76) = w1 at *
  have hc37 : w1.cell? ⟨w.heap.size, 37, none⟩ = some d.vm := hD.get (dlist_t hd.len 0)
  go_wp2_with fail
  refine (HS.out _ (HM.out.below hb0)).mono ?_
  rintro e w2 ⟨⟨v', rfl, hv', hfr'⟩, hb2⟩
  have hD2 := hD.below (by omega) (by omega) hb2
  have hbe0 := hb0.trans (hb2.mono (by omega))
  obtain ⟨ao2, cp2, rfl, _⟩ := hv'.open
  have HV := Lib.hid hv'
  have HFR := Lib.hid hfr'
  have c37 : w2.cell? ⟨w.heap.size, 37, none⟩ = some d.vm := hD2.get (dlist_t hd.len 0)
  have c39 : w2.cell? ⟨w.heap.size, 39, none⟩ = some (.int .u32 d.fr) := hD2.get (dlist_t hd.len 2)
  have c40 : w2.cell? ⟨w.heap.size, 40, none⟩ = some (.int .i64 d.many) := hD2.get (dlist_t hd.len 3)
  have f37 := hD2.frz 37
  have f39 := hD2.frz 39
  have f40 := hD2.frz 40
  have o1 : ({ d with vm := .slice ao2 (mStore m op ka x).length cp2 } : DidD).Ok := ⟨hd.len, rfl, hd.o1⟩
  have d1 := hD2.set (d' := { d with vm := .slice ao2 (mStore m op ka x).length cp2 }) 37 (.slice ao2 (mStore m op ka x).length cp2) (by rw [dlist_len hd]; omega) (dlist_setT (d := d) (d' := { d with vm := .slice ao2 (mStore m op ka x).length cp2 }) rfl hd.len (j := 0) rfl)
  have d2 := d1.set (d' := { d with vm := .slice ao2 (mStore m op ka x).length cp2, fr := (ka : Int) }) 39 (.int .u32 ka) (by rw [dlist_len o1]; omega) (dlist_setT (d := { d with vm := .slice ao2 (mStore m op ka x).length cp2 }) (d' := { d with vm := .slice ao2 (mStore m op ka x).length cp2, fr := (ka : Int) }) rfl hd.len (j := 2) rfl)
  have d3 := d2.set (d' := { d with vm := .slice ao2 (mStore m op ka x).length cp2, fr := (ka : Int), many := msize op }) 40 (.int .i64 (msize op)) (by rw [dlist_len (d := { d with vm := .slice ao2 (mStore m op ka x).length cp2, fr := (ka : Int) }) ⟨hd.len, rfl, hd.o1⟩]; omega) (dlist_setT (d := { d with vm := .slice ao2 (mStore m op ka x).length cp2, fr := (ka : Int) }) (d' := { d with vm := .slice ao2 (mStore m op ka x).length cp2, fr := (ka : Int), many := msize op }) rfl hd.len (j := 3) rfl)
  obtain ⟨dn, hdn⟩ : ∃ dn, dn = ({ d with vm := .slice ao2 (mStore m op ka x).length cp2, fr := (ka : Int), many := msize op } : DidD) := ⟨_, rfl⟩
  have hdnok : dn.Ok := by rw [hdn]; exact ⟨hd.len, rfl, hd.o1⟩
  rw [← hdn] at d3
  have HD := Lib.hid d3
  have hbe := ((hbe0.setCell (p := ⟨w.heap.size, 37, none⟩) (Nat.le_refl _) (.slice ao2 (mStore m op ka x).length cp2)).setCell (p := ⟨w.heap.size, 39, none⟩) (Nat.le_refl _) (.int .u32 ka)).setCell (p := ⟨w.heap.size, 40, none⟩) (Nat.le_refl _) (.int .i64 (msize op))
  have HDN := Lib.hid hdn
  clear hD hc37 hb2 hb0 hD2 d1 d2 d3 hv' hdn hfr'
  go_upto_region 7 with (go_at_call 102; refine (size3_store op _).mono ?_; rintro e w3 ⟨rfl, rfl⟩; rw [hsz])
  have hs2 := did_size hdnok
  have ht : (((w2.setCell ⟨w.heap.size, 37, none⟩ (.slice ao2 (mStore m op ka x).length cp2)).setCell ⟨w.heap.size, 39, none⟩ (.int .u32 ka)).setCell ⟨w.heap.size, 40, none⟩ (.int .i64 (msize op))).there (w.heap.size + 1) 0 (dcells dn).size := by rw [dcells_size hdnok]; exact HD.out.there
  have hall := dlist_all hdnok
  have hld := load_setCells (P := Try.prog) ht Try.underlying76 rfl hs2
  go_wp2_with (first | (refine wpList_load_at rfl 76 _ rfl w.heap.size 0 rfl (dcells dn) _ HD.out.at_ Try.underlying76 rfl hs2 ?_) | (refine wpList_store_mid rfl 76 _ _ rfl (w.heap.size + 1) 0 (dcells dn) rfl rfl ht hs2 hall ?_))
  exact bodyPost_ret (results_c1t (by rfl) _ (by rfl) hld) rfl ⟨_, by rw [HDN.out]; rfl, sl_setCells (fun b' off n c e => by have := HFR.out b' (by rw [e]; rfl); omega) _ _ _ (((HV.out.set_other (fun b' off n c e => by have := HFR.out b' (by rw [e]; rfl); show w.heap.size ≠ b'; omega) _).set_other (fun b' off n c e => by have := HFR.out b' (by rw [e]; rfl); show w.heap.size ≠ b'; omega) _).set_other (fun b' off n c e => by have := HFR.out b' (by rw [e]; rfl); show w.heap.size ≠ b'; omega) _), fun q e => by have := HFR.out q e; omega, below_setCells (by omega) _ _ _ hbe⟩
end Go.Proofs.Ytlfnddmncbkjaab.W
namespace Go.Proofs.Ytlfnddmncbkjaab.W
open Go.RowKit Fb
theorem atom4_lr_no (d : DidD) (c : CoreD) (w : World) (hc : DidOf w d c) (wf : c.Wf) (hl : c.m.length ≤ 4096) (kd k1 k2 : Nat) (imm : Int) (hk : kd < 32) (a b : Int) (ha : U32 a) (hb' : U32 b) (hq : mLoadOk c.m 13 a = false) :
    Calls Try.prog 92 #[.agg (dcells d), .agg #[.int .i64 46, .int .i64 kd, .int .i64 k1, .int .i64 k2, .int .i32 imm], .int .u32 a, .int .u32 b] w fun e w' => ∃ d', e = .returned (.tuple #[.agg (dcells d'), .bool false]) ∧ DidOf w' d' (c.trap 3) ∧ (d'.vm = d.vm ∨ ∀ q, d'.vm.ownBlock = some q → w.heap.size ≤ q) ∧ d'.vo = d.vo ∧ Below w.heap.size w w' := by
  have d_ok := hc.ok wf
  have HC := Lib.hid hc
  have HL := Lib.hid (fun W hW => load3_any d.vm c.m 13 a W hW ha wf.m.getD)
  have HA := Lib.hid ha
  have HB := Lib.hid hb'
  rw [hq] at HL
  go_enter Try.func92, Try.ntmps92
  go_upto_region 1 with (fail)
  show Code.wp _ _ _ _ (((w.alloc (.cells (dcells d) 76)).alloc (.cells #[.int .i64 46, .int .i64 kd, .int .i64 k1, .int .i64 k2, .int .i32 imm] 38)).alloc (.cells (dcells did0) 76))
  have hD := DBox.begin2 (w := w) (tD := 76) (d := d) (z := dcells did0) (o := .cells #[.int .i64 46, .int .i64 kd, .int .i64 k1, .int .i64 k2, .int .i32 imm] 38) (dcells_size did0_ok)
  have hb0 : Below w.heap.size w (((w.alloc (.cells (dcells d) 76)).alloc (.cells #[.int .i64 46, .int .i64 kd, .int .i64 k1, .int .i64 k2, .int .i32 imm] 38)).alloc (.cells (dcells did0) 76)) := Fb.blw
  have hs0 : (((w.alloc (.cells (dcells d) 76)).alloc (.cells #[.int .i64 46, .int .i64 kd, .int .i64 k1, .int .i64 k2, .int .i32 imm] 38)).alloc (.cells (dcells did0) 76)).heap.size = w.heap.size + 3 := by simp
  have q0 : (((w.alloc (.cells (dcells d) 76)).alloc (.cells #[.int .i64 46, .int .i64 kd, .int .i64 k1, .int .i64 k2, .int .i32 imm] 38)).alloc (.cells (dcells did0) 76)).cell? ⟨w.heap.size + 1, 0, none⟩ = some (.int .i64 46) := by go_cell
  have q1 : (((w.alloc (.cells (dcells d) 76)).alloc (.cells #[.int .i64 46, .int .i64 kd, .int .i64 k1, .int .i64 k2, .int .i32 imm] 38)).alloc (.cells (dcells did0) 76)).cell? ⟨w.heap.size + 1, 1, none⟩ = some (.int .i64 kd) := by go_cell
  have q2 : (((w.alloc (.cells (dcells d) 76)).alloc (.cells #[.int .i64 46, .int .i64 kd, .int .i64 k1, .int .i64 k2, .int .i32 imm] 38)).alloc (.cells (dcells did0) 76)).cell? ⟨w.heap.size + 1, 2, none⟩ = some (.int .i64 k1) := by go_cell
  have q3 : (((w.alloc (.cells (dcells d) 76)).alloc (.cells #[.int .i64 46, .int .i64 kd, .int .i64 k1, .int .i64 k2, .int .i32 imm] 38)).alloc (.cells (dcells did0) 76)).cell? ⟨w.heap.size + 1, 3, none⟩ = some (.int .i64 k2) := by go_cell
  have q4 : (((w.alloc (.cells (dcells d) 76)).alloc (.cells #[.int .i64 46, .int .i64 kd, .int .i64 k1, .int .i64 k2, .int .i32 imm] 38)).alloc (.cells (dcells did0) 76)).cell? ⟨w.heap.size + 1, 4, none⟩ = some (.int .i32 imm) := by go_cell
  generalize ((w.alloc (.cells (dcells d) 76)).alloc (.cells #[.int .i64 46, .int .i64 kd, .int .i64 k1, .int .i64 k2, .int .i32 imm] 38)).alloc (.cells (dcells did0) 76) = w1 at *
  have c37 : w1.cell? ⟨w.heap.size, 37, none⟩ = some d.vm := hD.get (dlist_t d_ok.len 0)
  have HD := Lib.hid hD
  clear hD
  go_upto_region 3 with (go_at_call 76; refine (HL.out _ (HC.out.m.below hb0)).mono ?_; rintro e w2 ⟨rfl, rfl⟩)
  go_wp2_with (first | (refine wpList_load_at rfl 76 _ rfl (w.heap.size) 0 rfl (dcells d) _ HD.out.at_ Try.underlying76 rfl (did_size d_ok) ?_))
  refine (trap4_any d d_ok 3 _).mono ?_
  rintro e w2 ⟨rfl, hb2⟩
  have HD2 := Lib.hid (HD.out.below (by omega) (by omega) hb2)
  have d2_ok : (d.trap 3).Ok := ⟨d_ok.len, d_ok.m1, d_ok.o1⟩
  have hbe := hb0.trans (hb2.mono (by omega))
  clear hb2 c37 q0 q1 q2 q3 q4
  have ht : (w2).there (w.heap.size + 2) 0 (dcells (d.trap 3)).size := by rw [dcells_size d2_ok]; exact HD2.out.there
  have hld := load_setCells (P := Try.prog) ht Try.underlying76 rfl (did_size d2_ok)
  go_wp2_with (first | (refine wpList_store_mid rfl 76 _ _ rfl (w.heap.size + 2) 0 (dcells (d.trap 3)) rfl rfl ht (did_size d2_ok) (dlist_all d2_ok) ?_))
  exact bodyPost_ret (results_c1t (by rfl) _ (by rfl) hld) rfl ⟨_, rfl, (HC.out.below (below_setCells (by omega) _ _ _ hbe)).trap 3, .inl rfl, rfl, below_setCells (by omega) _ _ _ hbe⟩
theorem atom4_no (d : DidD) (c : CoreD) (w : World) (hc : DidOf w d c) (wf : c.Wf) (hl : c.m.length ≤ 4096) (op : Int) (kd k1 k2 : Nat) (imm : Int) (hop : 47 ≤ op ∧ op ≤ 56) (hk : kd < 32) (a b : Int) (ha : U32 a) (hb' : U32 b) (hq : mLoadOk c.m 13 a = false) :
    Calls Try.prog 92 #[.agg (dcells d), .agg #[.int .i64 op, .int .i64 kd, .int .i64 k1, .int .i64 k2, .int .i32 imm], .int .u32 a, .int .u32 b] w fun e w' => ∃ d', e = .returned (.tuple #[.agg (dcells d'), .bool false]) ∧ DidOf w' d' (c.trap 4) ∧ (d'.vm = d.vm ∨ ∀ q, d'.vm.ownBlock = some q → w.heap.size ≤ q) ∧ d'.vo = d.vo ∧ Below w.heap.size w w' := by
  have d_ok := hc.ok wf
  have HC := Lib.hid hc
  have HL := Lib.hid (fun W hW => load3_any d.vm c.m 13 a W hW ha wf.m.getD)
  have HA := Lib.hid ha
  have HB := Lib.hid hb'
  obtain ⟨o0, o1⟩ := hop
  have f46 : (op == 46) = false := beq_eq_false_iff_ne.2 (by omega)
  rw [hq] at HL
  go_enter Try.func92, Try.ntmps92
  go_upto_region 1 with (fail)
  show Code.wp _ _ _ _ (((w.alloc (.cells (dcells d) 76)).alloc (.cells #[.int .i64 op, .int .i64 kd, .int .i64 k1, .int .i64 k2, .int .i32 imm] 38)).alloc (.cells (dcells did0) 76))
  have hD := DBox.begin2 (w := w) (tD := 76) (d := d) (z := dcells did0) (o := .cells #[.int .i64 op, .int .i64 kd, .int .i64 k1, .int .i64 k2, .int .i32 imm] 38) (dcells_size did0_ok)
  have hb0 : Below w.heap.size w (((w.alloc (.cells (dcells d) 76)).alloc (.cells #[.int .i64 op, .int .i64 kd, .int .i64 k1, .int .i64 k2, .int .i32 imm] 38)).alloc (.cells (dcells did0) 76)) := Fb.blw
  have hs0 : (((w.alloc (.cells (dcells d) 76)).alloc (.cells #[.int .i64 op, .int .i64 kd, .int .i64 k1, .int .i64 k2, .int .i32 imm] 38)).alloc (.cells (dcells did0) 76)).heap.size = w.heap.size + 3 := by simp
  have q0 : (((w.alloc (.cells (dcells d) 76)).alloc (.cells #[.int .i64 op, .int .i64 kd, .int .i64 k1, .int .i64 k2, .int .i32 imm] 38)).alloc (.cells (dcells did0) 76)).cell? ⟨w.heap.size + 1, 0, none⟩ = some (.int .i64 op) := by go_cell
  have q1 : (((w.alloc (.cells (dcells d) 76)).alloc (.cells #[.int .i64 op, .int .i64 kd, .int .i64 k1, .int .i64 k2, .int .i32 imm] 38)).alloc (.cells (dcells did0) 76)).cell? ⟨w.heap.size + 1, 1, none⟩ = some (.int .i64 kd) := by go_cell
  have q2 : (((w.alloc (.cells (dcells d) 76)).alloc (.cells #[.int .i64 op, .int .i64 kd, .int .i64 k1, .int .i64 k2, .int .i32 imm] 38)).alloc (.cells (dcells did0) 76)).cell? ⟨w.heap.size + 1, 2, none⟩ = some (.int .i64 k1) := by go_cell
  have q3 : (((w.alloc (.cells (dcells d) 76)).alloc (.cells #[.int .i64 op, .int .i64 kd, .int .i64 k1, .int .i64 k2, .int .i32 imm] 38)).alloc (.cells (dcells did0) 76)).cell? ⟨w.heap.size + 1, 3, none⟩ = some (.int .i64 k2) := by go_cell
  have q4 : (((w.alloc (.cells (dcells d) 76)).alloc (.cells #[.int .i64 op, .int .i64 kd, .int .i64 k1, .int .i64 k2, .int .i32 imm] 38)).alloc (.cells (dcells did0) 76)).cell? ⟨w.heap.size + 1, 4, none⟩ = some (.int .i32 imm) := by go_cell
  generalize ((w.alloc (.cells (dcells d) 76)).alloc (.cells #[.int .i64 op, .int .i64 kd, .int .i64 k1, .int .i64 k2, .int .i32 imm] 38)).alloc (.cells (dcells did0) 76) = w1 at *
  have c37 : w1.cell? ⟨w.heap.size, 37, none⟩ = some d.vm := hD.get (dlist_t d_ok.len 0)
  have HD := Lib.hid hD
  clear hD
  go_upto_region 5 with (go_at_call 76; refine (HL.out _ (HC.out.m.below hb0)).mono ?_; rintro e w2 ⟨rfl, rfl⟩)
  go_wp2_with (first | (refine wpList_load_at rfl 76 _ rfl (w.heap.size) 0 rfl (dcells d) _ HD.out.at_ Try.underlying76 rfl (did_size d_ok) ?_))
  refine (trap4_any d d_ok 4 _).mono ?_
  rintro e w2 ⟨rfl, hb2⟩
  have HD2 := Lib.hid (HD.out.below (by omega) (by omega) hb2)
  have d2_ok : (d.trap 4).Ok := ⟨d_ok.len, d_ok.m1, d_ok.o1⟩
  have hbe := hb0.trans (hb2.mono (by omega))
  clear hb2 c37 q0 q1 q2 q3 q4
  have ht : (w2).there (w.heap.size + 2) 0 (dcells (d.trap 4)).size := by rw [dcells_size d2_ok]; exact HD2.out.there
  have hld := load_setCells (P := Try.prog) ht Try.underlying76 rfl (did_size d2_ok)
  go_wp2_with (first | (refine wpList_store_mid rfl 76 _ _ rfl (w.heap.size + 2) 0 (dcells (d.trap 4)) rfl rfl ht (did_size d2_ok) (dlist_all d2_ok) ?_))
  exact bodyPost_ret (results_c1t (by rfl) _ (by rfl) hld) rfl ⟨_, rfl, (HC.out.below (below_setCells (by omega) _ _ _ hbe)).trap 4, .inl rfl, rfl, below_setCells (by omega) _ _ _ hbe⟩
end Go.Proofs.Ytlfnddmncbkjaab.W
namespace Go.Proofs.Ytlfnddmncbkjaab.W
open Go.RowKit Fb
theorem atom4_lr (d : DidD) (c : CoreD) (w : World) (hc : DidOf w d c) (wf : c.Wf) (hl : c.m.length ≤ 4096) (kd k1 k2 : Nat) (imm : Int) (hk : kd < 32) (a b : Int) (ha : U32 a) (hb' : U32 b) (hq : mLoadOk c.m 13 a = true) :
    Calls Try.prog 92 #[.agg (dcells d), .agg #[.int .i64 46, .int .i64 kd, .int .i64 k1, .int .i64 k2, .int .i32 imm], .int .u32 a, .int .u32 b] w fun e w' => ∃ d', e = .returned (.tuple #[.agg (dcells d'), .bool true]) ∧ DidOf w' d' ((c.hold true a).set kd (mLoad c.m 13 a)) ∧ (d'.vm = d.vm ∨ ∀ q, d'.vm.ownBlock = some q → w.heap.size ≤ q) ∧ d'.vo = d.vo ∧ Below w.heap.size w w' := by
  have d_ok := hc.ok wf
  have HC := Lib.hid hc
  have HL := Lib.hid (fun W hW => load3_any d.vm c.m 13 a W hW ha wf.m.getD)
  have HA := Lib.hid ha
  have HB := Lib.hid hb'
  obtain ⟨old, hold⟩ : ∃ x, x = mLoad c.m 13 a := ⟨_, rfl⟩
  rw [hq, ← hold] at HL
  have HLU := Lib.hid (mLoad_u c.m 13 a (by omega) ha wf.m.getD)
  rw [← hold] at HLU
  (try rw [← hold])
  go_enter Try.func92, Try.ntmps92
  go_upto_region 1 with (fail)
  show Code.wp _ _ _ _ (((w.alloc (.cells (dcells d) 76)).alloc (.cells #[.int .i64 46, .int .i64 kd, .int .i64 k1, .int .i64 k2, .int .i32 imm] 38)).alloc (.cells (dcells did0) 76))
  have hD := DBox.begin2 (w := w) (tD := 76) (d := d) (z := dcells did0) (o := .cells #[.int .i64 46, .int .i64 kd, .int .i64 k1, .int .i64 k2, .int .i32 imm] 38) (dcells_size did0_ok)
  have hb0 : Below w.heap.size w (((w.alloc (.cells (dcells d) 76)).alloc (.cells #[.int .i64 46, .int .i64 kd, .int .i64 k1, .int .i64 k2, .int .i32 imm] 38)).alloc (.cells (dcells did0) 76)) := Fb.blw
  have hs0 : (((w.alloc (.cells (dcells d) 76)).alloc (.cells #[.int .i64 46, .int .i64 kd, .int .i64 k1, .int .i64 k2, .int .i32 imm] 38)).alloc (.cells (dcells did0) 76)).heap.size = w.heap.size + 3 := by simp
  have q0 : (((w.alloc (.cells (dcells d) 76)).alloc (.cells #[.int .i64 46, .int .i64 kd, .int .i64 k1, .int .i64 k2, .int .i32 imm] 38)).alloc (.cells (dcells did0) 76)).cell? ⟨w.heap.size + 1, 0, none⟩ = some (.int .i64 46) := by go_cell
  have q1 : (((w.alloc (.cells (dcells d) 76)).alloc (.cells #[.int .i64 46, .int .i64 kd, .int .i64 k1, .int .i64 k2, .int .i32 imm] 38)).alloc (.cells (dcells did0) 76)).cell? ⟨w.heap.size + 1, 1, none⟩ = some (.int .i64 kd) := by go_cell
  have q2 : (((w.alloc (.cells (dcells d) 76)).alloc (.cells #[.int .i64 46, .int .i64 kd, .int .i64 k1, .int .i64 k2, .int .i32 imm] 38)).alloc (.cells (dcells did0) 76)).cell? ⟨w.heap.size + 1, 2, none⟩ = some (.int .i64 k1) := by go_cell
  have q3 : (((w.alloc (.cells (dcells d) 76)).alloc (.cells #[.int .i64 46, .int .i64 kd, .int .i64 k1, .int .i64 k2, .int .i32 imm] 38)).alloc (.cells (dcells did0) 76)).cell? ⟨w.heap.size + 1, 3, none⟩ = some (.int .i64 k2) := by go_cell
  have q4 : (((w.alloc (.cells (dcells d) 76)).alloc (.cells #[.int .i64 46, .int .i64 kd, .int .i64 k1, .int .i64 k2, .int .i32 imm] 38)).alloc (.cells (dcells did0) 76)).cell? ⟨w.heap.size + 1, 4, none⟩ = some (.int .i32 imm) := by go_cell
  generalize ((w.alloc (.cells (dcells d) 76)).alloc (.cells #[.int .i64 46, .int .i64 kd, .int .i64 k1, .int .i64 k2, .int .i32 imm] 38)).alloc (.cells (dcells did0) 76) = w1 at *
  have c37 : w1.cell? ⟨w.heap.size, 37, none⟩ = some d.vm := hD.get (dlist_t d_ok.len 0)
  have c33 := hD.get (dlist_h (hlist_held' d_ok.len))
  have c34 := hD.get (dlist_h (hlist_heldAt' d_ok.len))
  have f33 := hD.frz 33
  have f34 := hD.frz 34
  obtain ⟨d1, hd1⟩ : ∃ d1, d1 = ({ d with h := { d.h with held := true, heldAt := a } } : DidD) := ⟨_, rfl⟩
  have d1_ok : d1.Ok := by rw [hd1]; exact ⟨d_ok.len, d_ok.m1, d_ok.o1⟩
  have HD1 : Hid (DBox w.heap.size (w.heap.size + 2) 76 ((w1.setCell ⟨w.heap.size, 33, none⟩ (.bool true)).setCell ⟨w.heap.size, 34, none⟩ (.int .u32 a)) d1) := Lib.hid (by
    rw [hd1]
    exact (hD.set (d' := { d with h := { d.h with held := true } }) 33 (.bool true) (by rw [dlist_len d_ok]; omega) (dlist_setH (hlist_setHeld d_ok.len true) (by rw [hlist_len d_ok.len]; omega))).set 34 (.int .u32 a) (by simp [dlist, dtail, hlist, d_ok.len]) (dlist_setH (d := { d with h := { d.h with held := true } }) (hlist_setHeldAt (h := { d.h with held := true }) d_ok.len a) (by simp [hlist, d_ok.len])))
  have hbz := (hb0.setCell (p := ⟨w.heap.size, 33, none⟩) (Nat.le_refl _) (.bool true)).setCell (p := ⟨w.heap.size, 34, none⟩) (Nat.le_refl _) (.int .u32 a)
  have HDC1 : Hid (d1 = { d with h := { d.h with held := true, heldAt := a } }) := Lib.hid hd1
  have r1 : ((w1.setCell ⟨w.heap.size, 33, none⟩ (.bool true)).setCell ⟨w.heap.size, 34, none⟩ (.int .u32 a)).cell? ⟨w.heap.size + 1, 1, none⟩ = some (.int .i64 kd) := ((World.cell?_setCell_other _ _ _ _ (by intro e; injection e with e1; omega)).trans (World.cell?_setCell_other _ _ _ _ (by intro e; injection e with e1; omega))).trans q1
  have HSZ : w.heap.size + 3 ≤ (((w1.setCell ⟨w.heap.size, 33, none⟩ (.bool true)).setCell ⟨w.heap.size, 34, none⟩ (.int .u32 a))).heap.size := by simp; omega
  clear hD hd1 hold
  go_upto_region 7 with (go_at_call 76; refine (HL.out _ (HC.out.m.below hb0)).mono ?_; rintro e w2 ⟨rfl, rfl⟩)
  go_upto_region 9 with (fail)
  clear c37 c33 c34 f33 f34
  generalize ((w1.setCell ⟨w.heap.size, 33, none⟩ (.bool true)).setCell ⟨w.heap.size, 34, none⟩ (.int .u32 a)) = wz at *
  go_wp2_with (first | (refine wpList_load_at rfl 76 _ rfl (w.heap.size) 0 rfl (dcells d1) _ HD1.out.at_ Try.underlying76 rfl (did_size d1_ok) ?_))
  refine (set4_any d1 d1_ok kd hk old _).mono ?_
  rintro e w2 ⟨rfl, hb2⟩
  have hsz : w.heap.size + 3 ≤ wz.heap.size := HSZ
  have HD2 := Lib.hid (HD1.out.below (by omega) (by omega) hb2)
  have d2_ok : (d1.set kd old).Ok := d1_ok.setReg _ _
  have hbe := hbz.trans (hb2.mono (by omega))
  clear hb2 q0 q2 q3 q4 r1
  have ht : (w2).there (w.heap.size + 2) 0 (dcells (d1.set kd old)).size := by rw [dcells_size d2_ok]; exact HD2.out.there
  have hld := load_setCells (P := Try.prog) ht Try.underlying76 rfl (did_size d2_ok)
  go_wp2_with (first | (refine wpList_store_mid rfl 76 _ _ rfl (w.heap.size + 2) 0 (dcells (d1.set kd old)) rfl rfl ht (did_size d2_ok) (dlist_all d2_ok) ?_))
  refine bodyPost_ret (results_c1t (by rfl) _ (by rfl) hld) rfl ⟨_, rfl, ?_, .inl ?_, ?_, below_setCells (by omega) _ _ _ hbe⟩
  · rw [HDC1.out]
    exact ((HC.out.below (below_setCells (by omega) _ _ _ hbe)).hold true a).set kd old
  · rw [HDC1.out]; rfl
  · rw [HDC1.out]; rfl
end Go.Proofs.Ytlfnddmncbkjaab.W
namespace Go.Proofs.Ytlfnddmncbkjaab.W
open Go.RowKit Fb
theorem atom4_sc_no (d : DidD) (c : CoreD) (w : World) (hc : DidOf w d c) (wf : c.Wf) (hl : c.m.length ≤ 4096) (kd k1 k2 : Nat) (imm : Int) (hk : kd < 32) (a b : Int) (ha : U32 a) (hb' : U32 b) (hq : mLoadOk c.m 13 a = true) (hmine : c.h.held = false ∨ (c.h.held = true ∧ ¬ c.h.heldAt = a)) :
    Calls Try.prog 92 #[.agg (dcells d), .agg #[.int .i64 47, .int .i64 kd, .int .i64 k1, .int .i64 k2, .int .i32 imm], .int .u32 a, .int .u32 b] w fun e w' => ∃ d', e = .returned (.tuple #[.agg (dcells d'), .bool true]) ∧ DidOf w' d' ((c.hold false 0).set kd 1) ∧ (d'.vm = d.vm ∨ ∀ q, d'.vm.ownBlock = some q → w.heap.size ≤ q) ∧ d'.vo = d.vo ∧ Below w.heap.size w w' := by
  have d_ok := hc.ok wf
  have HC := Lib.hid hc
  have HL := Lib.hid (fun W hW => load3_any d.vm c.m 13 a W hW ha wf.m.getD)
  have HA := Lib.hid ha
  have HB := Lib.hid hb'
  obtain ⟨old, hold⟩ : ∃ x, x = mLoad c.m 13 a := ⟨_, rfl⟩
  rw [hq, ← hold] at HL
  have HLU := Lib.hid (mLoad_u c.m 13 a (by omega) ha wf.m.getD)
  rw [← hold] at HLU
  (try rw [← hold])
  have hh1 : d.h.held = c.h.held := by rw [hc.h]
  have hh2 : d.h.heldAt = c.h.heldAt := by rw [hc.h]
  rw [← hh1, ← hh2] at hmine
  clear hh1 hh2 hc
  rcases hmine with hm | ⟨hm, hm2⟩
  all_goals
    (try have hbeq : (d.h.heldAt == a) = false := beq_eq_false_iff_ne.2 hm2)
    go_enter Try.func92, Try.ntmps92
    go_upto_region 1 with (fail)
    show Code.wp _ _ _ _ (((w.alloc (.cells (dcells d) 76)).alloc (.cells #[.int .i64 47, .int .i64 kd, .int .i64 k1, .int .i64 k2, .int .i32 imm] 38)).alloc (.cells (dcells did0) 76))
    have hD := DBox.begin2 (w := w) (tD := 76) (d := d) (z := dcells did0) (o := .cells #[.int .i64 47, .int .i64 kd, .int .i64 k1, .int .i64 k2, .int .i32 imm] 38) (dcells_size did0_ok)
    have hb0 : Below w.heap.size w (((w.alloc (.cells (dcells d) 76)).alloc (.cells #[.int .i64 47, .int .i64 kd, .int .i64 k1, .int .i64 k2, .int .i32 imm] 38)).alloc (.cells (dcells did0) 76)) := Fb.blw
    have hs0 : (((w.alloc (.cells (dcells d) 76)).alloc (.cells #[.int .i64 47, .int .i64 kd, .int .i64 k1, .int .i64 k2, .int .i32 imm] 38)).alloc (.cells (dcells did0) 76)).heap.size = w.heap.size + 3 := by simp
    have q0 : (((w.alloc (.cells (dcells d) 76)).alloc (.cells #[.int .i64 47, .int .i64 kd, .int .i64 k1, .int .i64 k2, .int .i32 imm] 38)).alloc (.cells (dcells did0) 76)).cell? ⟨w.heap.size + 1, 0, none⟩ = some (.int .i64 47) := by go_cell
    have q1 : (((w.alloc (.cells (dcells d) 76)).alloc (.cells #[.int .i64 47, .int .i64 kd, .int .i64 k1, .int .i64 k2, .int .i32 imm] 38)).alloc (.cells (dcells did0) 76)).cell? ⟨w.heap.size + 1, 1, none⟩ = some (.int .i64 kd) := by go_cell
    have q2 : (((w.alloc (.cells (dcells d) 76)).alloc (.cells #[.int .i64 47, .int .i64 kd, .int .i64 k1, .int .i64 k2, .int .i32 imm] 38)).alloc (.cells (dcells did0) 76)).cell? ⟨w.heap.size + 1, 2, none⟩ = some (.int .i64 k1) := by go_cell
    have q3 : (((w.alloc (.cells (dcells d) 76)).alloc (.cells #[.int .i64 47, .int .i64 kd, .int .i64 k1, .int .i64 k2, .int .i32 imm] 38)).alloc (.cells (dcells did0) 76)).cell? ⟨w.heap.size + 1, 3, none⟩ = some (.int .i64 k2) := by go_cell
    have q4 : (((w.alloc (.cells (dcells d) 76)).alloc (.cells #[.int .i64 47, .int .i64 kd, .int .i64 k1, .int .i64 k2, .int .i32 imm] 38)).alloc (.cells (dcells did0) 76)).cell? ⟨w.heap.size + 1, 4, none⟩ = some (.int .i32 imm) := by go_cell
    generalize ((w.alloc (.cells (dcells d) 76)).alloc (.cells #[.int .i64 47, .int .i64 kd, .int .i64 k1, .int .i64 k2, .int .i32 imm] 38)).alloc (.cells (dcells did0) 76) = w1 at *
    have c37 : w1.cell? ⟨w.heap.size, 37, none⟩ = some d.vm := hD.get (dlist_t d_ok.len 0)
    have c33 := hD.get (dlist_h (hlist_held' d_ok.len))
    have c34 := hD.get (dlist_h (hlist_heldAt' d_ok.len))
    have f33 := hD.frz 33
    have f34 := hD.frz 34
    obtain ⟨d1, hd1⟩ : ∃ d1, d1 = ({ d with h := { d.h with held := false, heldAt := 0 } } : DidD) := ⟨_, rfl⟩
    have d1_ok : d1.Ok := by rw [hd1]; exact ⟨d_ok.len, d_ok.m1, d_ok.o1⟩
    have HD1 : Hid (DBox w.heap.size (w.heap.size + 2) 76 ((w1.setCell ⟨w.heap.size, 33, none⟩ (.bool false)).setCell ⟨w.heap.size, 34, none⟩ (.int .u32 0)) d1) := Lib.hid (by
      rw [hd1]
      exact (hD.set (d' := { d with h := { d.h with held := false } }) 33 (.bool false) (by rw [dlist_len d_ok]; omega) (dlist_setH (hlist_setHeld d_ok.len false) (by rw [hlist_len d_ok.len]; omega))).set 34 (.int .u32 0) (by simp [dlist, dtail, hlist, d_ok.len]) (dlist_setH (d := { d with h := { d.h with held := false } }) (hlist_setHeldAt (h := { d.h with held := false }) d_ok.len 0) (by simp [hlist, d_ok.len])))
    have hbz := (hb0.setCell (p := ⟨w.heap.size, 33, none⟩) (Nat.le_refl _) (.bool false)).setCell (p := ⟨w.heap.size, 34, none⟩) (Nat.le_refl _) (.int .u32 0)
    have HDC1 : Hid (d1 = { d with h := { d.h with held := false, heldAt := 0 } }) := Lib.hid hd1
    have r1 : ((w1.setCell ⟨w.heap.size, 33, none⟩ (.bool false)).setCell ⟨w.heap.size, 34, none⟩ (.int .u32 0)).cell? ⟨w.heap.size + 1, 1, none⟩ = some (.int .i64 kd) := ((World.cell?_setCell_other _ _ _ _ (by intro e; injection e with e1; omega)).trans (World.cell?_setCell_other _ _ _ _ (by intro e; injection e with e1; omega))).trans q1
    have HSZ : w.heap.size + 3 ≤ (((w1.setCell ⟨w.heap.size, 33, none⟩ (.bool false)).setCell ⟨w.heap.size, 34, none⟩ (.int .u32 0))).heap.size := by simp; omega
    rw [hm] at c33
    clear hD hd1 hold
    go_upto_region 11 with (go_at_call 76; refine (HL.out _ (HC.out.m.below hb0)).mono ?_; rintro e w2 ⟨rfl, rfl⟩)
    go_upto_region 15 with (fail)
    clear c37 c33 c34 f33 f34
    generalize ((w1.setCell ⟨w.heap.size, 33, none⟩ (.bool false)).setCell ⟨w.heap.size, 34, none⟩ (.int .u32 0)) = wz at *
    go_wp2_with (first | (refine wpList_load_at rfl 76 _ rfl (w.heap.size) 0 rfl (dcells d1) _ HD1.out.at_ Try.underlying76 rfl (did_size d1_ok) ?_))
    refine (set4_any d1 d1_ok kd hk 1 _).mono ?_
    rintro e w2 ⟨rfl, hb2⟩
    have HD2 := Lib.hid (HD1.out.below (by omega) (by omega) hb2)
    have d2_ok : (d1.set kd 1).Ok := d1_ok.setReg _ _
    have hbe := hbz.trans (hb2.mono (by omega))
    clear hb2 q0 q2 q3 q4 r1
    have ht : (w2).there (w.heap.size + 2) 0 (dcells (d1.set kd 1)).size := by rw [dcells_size d2_ok]; exact HD2.out.there
    have hld := load_setCells (P := Try.prog) ht Try.underlying76 rfl (did_size d2_ok)
    go_wp2_with (first | (refine wpList_store_mid rfl 76 _ _ rfl (w.heap.size + 2) 0 (dcells (d1.set kd 1)) rfl rfl ht (did_size d2_ok) (dlist_all d2_ok) ?_))
    refine bodyPost_ret (results_c1t (by rfl) _ (by rfl) hld) rfl ⟨_, rfl, ?_, .inl ?_, ?_, below_setCells (by omega) _ _ _ hbe⟩
    · rw [HDC1.out]
      exact ((HC.out.below (below_setCells (by omega) _ _ _ hbe)).hold false 0).set kd 1
    · rw [HDC1.out]; rfl
    · rw [HDC1.out]; rfl
theorem atom4_sc (d : DidD) (c : CoreD) (w : World) (hc : DidOf w d c) (wf : c.Wf) (hl : c.m.length ≤ 4096) (kd k1 k2 : Nat) (imm : Int) (hk : kd < 32) (a b : Int) (ha : U32 a) (hb' : U32 b) (hq : mLoadOk c.m 13 a = true) (hmine : c.h.held = true) (hmine2 : c.h.heldAt = a) :
    Calls Try.prog 92 #[.agg (dcells d), .agg #[.int .i64 47, .int .i64 kd, .int .i64 k1, .int .i64 k2, .int .i32 imm], .int .u32 a, .int .u32 b] w fun e w' => ∃ d', e = .returned (.tuple #[.agg (dcells d'), .bool true]) ∧ DidOf w' d' (((c.put 18 a b).hold false 0).set kd 0) ∧ (d'.vm = d.vm ∨ ∀ q, d'.vm.ownBlock = some q → w.heap.size ≤ q) ∧ d'.vo = d.vo ∧ Below w.heap.size w w' := by
  have d_ok := hc.ok wf
  have HC := Lib.hid hc
  have HL := Lib.hid (fun W hW => load3_any d.vm c.m 13 a W hW ha wf.m.getD)
  have HA := Lib.hid ha
  have HB := Lib.hid hb'
  obtain ⟨old, hold⟩ : ∃ x, x = mLoad c.m 13 a := ⟨_, rfl⟩
  rw [hq, ← hold] at HL
  have HLU := Lib.hid (mLoad_u c.m 13 a (by omega) ha wf.m.getD)
  rw [← hold] at HLU
  (try rw [← hold])
  have hh1 : d.h.held = true := by rw [hc.h]; exact hmine
  have hh2 : d.h.heldAt = a := by rw [hc.h]; exact hmine2
  clear hc
  go_enter Try.func92, Try.ntmps92
  go_upto_region 1 with (fail)
  show Code.wp _ _ _ _ (((w.alloc (.cells (dcells d) 76)).alloc (.cells #[.int .i64 47, .int .i64 kd, .int .i64 k1, .int .i64 k2, .int .i32 imm] 38)).alloc (.cells (dcells did0) 76))
  have hD := DBox.begin2 (w := w) (tD := 76) (d := d) (z := dcells did0) (o := .cells #[.int .i64 47, .int .i64 kd, .int .i64 k1, .int .i64 k2, .int .i32 imm] 38) (dcells_size did0_ok)
  have hb0 : Below w.heap.size w (((w.alloc (.cells (dcells d) 76)).alloc (.cells #[.int .i64 47, .int .i64 kd, .int .i64 k1, .int .i64 k2, .int .i32 imm] 38)).alloc (.cells (dcells did0) 76)) := Fb.blw
  have hs0 : (((w.alloc (.cells (dcells d) 76)).alloc (.cells #[.int .i64 47, .int .i64 kd, .int .i64 k1, .int .i64 k2, .int .i32 imm] 38)).alloc (.cells (dcells did0) 76)).heap.size = w.heap.size + 3 := by simp
  have q0 : (((w.alloc (.cells (dcells d) 76)).alloc (.cells #[.int .i64 47, .int .i64 kd, .int .i64 k1, .int .i64 k2, .int .i32 imm] 38)).alloc (.cells (dcells did0) 76)).cell? ⟨w.heap.size + 1, 0, none⟩ = some (.int .i64 47) := by go_cell
  have q1 : (((w.alloc (.cells (dcells d) 76)).alloc (.cells #[.int .i64 47, .int .i64 kd, .int .i64 k1, .int .i64 k2, .int .i32 imm] 38)).alloc (.cells (dcells did0) 76)).cell? ⟨w.heap.size + 1, 1, none⟩ = some (.int .i64 kd) := by go_cell
  have q2 : (((w.alloc (.cells (dcells d) 76)).alloc (.cells #[.int .i64 47, .int .i64 kd, .int .i64 k1, .int .i64 k2, .int .i32 imm] 38)).alloc (.cells (dcells did0) 76)).cell? ⟨w.heap.size + 1, 2, none⟩ = some (.int .i64 k1) := by go_cell
  have q3 : (((w.alloc (.cells (dcells d) 76)).alloc (.cells #[.int .i64 47, .int .i64 kd, .int .i64 k1, .int .i64 k2, .int .i32 imm] 38)).alloc (.cells (dcells did0) 76)).cell? ⟨w.heap.size + 1, 3, none⟩ = some (.int .i64 k2) := by go_cell
  have q4 : (((w.alloc (.cells (dcells d) 76)).alloc (.cells #[.int .i64 47, .int .i64 kd, .int .i64 k1, .int .i64 k2, .int .i32 imm] 38)).alloc (.cells (dcells did0) 76)).cell? ⟨w.heap.size + 1, 4, none⟩ = some (.int .i32 imm) := by go_cell
  generalize ((w.alloc (.cells (dcells d) 76)).alloc (.cells #[.int .i64 47, .int .i64 kd, .int .i64 k1, .int .i64 k2, .int .i32 imm] 38)).alloc (.cells (dcells did0) 76) = w1 at *
  have c37 : w1.cell? ⟨w.heap.size, 37, none⟩ = some d.vm := hD.get (dlist_t d_ok.len 0)
  have c33 := hD.get (dlist_h (hlist_held' d_ok.len))
  have c34 := hD.get (dlist_h (hlist_heldAt' d_ok.len))
  have f33 := hD.frz 33
  have f34 := hD.frz 34
  obtain ⟨d1, hd1⟩ : ∃ d1, d1 = ({ d with h := { d.h with held := false, heldAt := 0 } } : DidD) := ⟨_, rfl⟩
  have d1_ok : d1.Ok := by rw [hd1]; exact ⟨d_ok.len, d_ok.m1, d_ok.o1⟩
  have HD1 : Hid (DBox w.heap.size (w.heap.size + 2) 76 ((w1.setCell ⟨w.heap.size, 33, none⟩ (.bool false)).setCell ⟨w.heap.size, 34, none⟩ (.int .u32 0)) d1) := Lib.hid (by
    rw [hd1]
    exact (hD.set (d' := { d with h := { d.h with held := false } }) 33 (.bool false) (by rw [dlist_len d_ok]; omega) (dlist_setH (hlist_setHeld d_ok.len false) (by rw [hlist_len d_ok.len]; omega))).set 34 (.int .u32 0) (by simp [dlist, dtail, hlist, d_ok.len]) (dlist_setH (d := { d with h := { d.h with held := false } }) (hlist_setHeldAt (h := { d.h with held := false }) d_ok.len 0) (by simp [hlist, d_ok.len])))
  have hbz := (hb0.setCell (p := ⟨w.heap.size, 33, none⟩) (Nat.le_refl _) (.bool false)).setCell (p := ⟨w.heap.size, 34, none⟩) (Nat.le_refl _) (.int .u32 0)
  have HDC1 : Hid (d1 = { d with h := { d.h with held := false, heldAt := 0 } }) := Lib.hid hd1
  have r1 : ((w1.setCell ⟨w.heap.size, 33, none⟩ (.bool false)).setCell ⟨w.heap.size, 34, none⟩ (.int .u32 0)).cell? ⟨w.heap.size + 1, 1, none⟩ = some (.int .i64 kd) := ((World.cell?_setCell_other _ _ _ _ (by intro e; injection e with e1; omega)).trans (World.cell?_setCell_other _ _ _ _ (by intro e; injection e with e1; omega))).trans q1
  have HSZ : w.heap.size + 3 ≤ (((w1.setCell ⟨w.heap.size, 33, none⟩ (.bool false)).setCell ⟨w.heap.size, 34, none⟩ (.int .u32 0))).heap.size := by simp; omega
  rw [hh1] at c33
  rw [hh2] at c34
  clear hD hd1 hold
  go_upto_region 11 with (go_at_call 76; refine (HL.out _ (HC.out.m.below hb0)).mono ?_; rintro e w2 ⟨rfl, rfl⟩)
  go_upto_region 16 with (fail)
  clear c37 c33 c34 f33 f34
  generalize ((w1.setCell ⟨w.heap.size, 33, none⟩ (.bool false)).setCell ⟨w.heap.size, 34, none⟩ (.int .u32 0)) = wz at *
  have hm1 : Ints .u8 wz d1.vm c.m := by rw [HDC1.out]; exact HC.out.m.below hbz
  go_wp2_with (first | (refine wpList_load_at rfl 76 _ rfl (w.heap.size) 0 rfl (dcells d1) _ HD1.out.at_ Try.underlying76 rfl (did_size d1_ok) ?_))
  refine (store4_yes d1 d1_ok c.m 18 a b _ hm1 HA.out HB.out wf.mlen (by rw [store_load]; exact hq)).mono ?_
  rintro e w2 ⟨v', rfl, hv', hfr', hb2⟩
  have hsz2 := hb2.size
  obtain ⟨d2, hd2⟩ : ∃ d2, d2 = ({ d1 with vm := v', fr := a, many := msize 18 } : DidD) := ⟨_, rfl⟩
  have d2_ok : d2.Ok := by rw [hd2]; exact ⟨d1_ok.len, hv'.one, d1_ok.o1⟩
  rw [← hd2]
  have HB2 := HD1.out.below (by omega) (by omega) hb2
  have htB := HB2.thereB d1_ok d2_ok
  have HD2 := Lib.hid (HB2.put d1_ok d2_ok)
  have hbe := below_setCells (b := w.heap.size) (Nat.le_refl _) (dcells d2).toList 0 _ (hbz.trans (hb2.mono (by omega)))
  have r2 : (w2.setCells w.heap.size 0 (dcells d2).toList).cell? ⟨w.heap.size + 1, 1, none⟩ = some (.int .i64 kd) := (World.cell?_setCells_out _ _ _ _ _ (fun hb _ => absurd hb (by simp))).trans ((hb2.cell (p := ⟨w.heap.size + 1, 1, none⟩) (by show w.heap.size + 1 < _; omega)).trans r1)
  have hv2 : Ints .u8 (w2.setCells w.heap.size 0 (dcells d2).toList) v' (mStore c.m 18 a b) := sl_setCells (fresh_ne hfr' (by omega)) _ _ _ hv'
  have hs2w : w.heap.size + 3 ≤ (w2.setCells w.heap.size 0 (dcells d2).toList).heap.size := by rw [size_setCells]; omega
  have HFR : Hid (∀ q, v'.ownBlock = some q → w.heap.size + 3 ≤ q) := Lib.hid (fun q e => by have := hfr' q e; omega)
  have HD2E := Lib.hid hd2
  clear hb2 q0 q2 q3 q4 r1 hd2 HB2 hm1 hv' hfr' hh1 hh2 hmine hmine2
  go_upto_region 17 with (first | (refine wpList_store_mid rfl 76 _ _ rfl w.heap.size 0 (dcells d2) rfl rfl htB (did_size d2_ok) (dlist_all d2_ok) ?_))
  generalize w2.setCells w.heap.size 0 (dcells d2).toList = wy at *
  go_wp2_with (first | (refine wpList_load_at rfl 76 _ rfl (w.heap.size) 0 rfl (dcells d2) _ HD2.out.at_ Try.underlying76 rfl (did_size d2_ok) ?_))
  refine (set4_any d2 d2_ok kd hk 0 _).mono ?_
  rintro e w3 ⟨rfl, hb3⟩
  have HD3 := Lib.hid (HD2.out.below (by omega) (by omega) hb3)
  have d3_ok : (d2.set kd 0).Ok := d2_ok.setReg _ _
  have hbf := hbe.trans (hb3.mono (by omega))
  have hv3 := hv2.below hb3
  clear hb3 r2
  have ht : (w3).there (w.heap.size + 2) 0 (dcells (d2.set kd 0)).size := by rw [dcells_size d3_ok]; exact HD3.out.there
  have hld := load_setCells (P := Try.prog) ht Try.underlying76 rfl (did_size d3_ok)
  go_wp2_with (first | (refine wpList_store_mid rfl 76 _ _ rfl (w.heap.size + 2) 0 (dcells (d2.set kd 0)) rfl rfl ht (did_size d3_ok) (dlist_all d3_ok) ?_))
  refine bodyPost_ret (results_c1t (by rfl) _ (by rfl) hld) rfl ⟨_, rfl, ?_, .inr ?_, ?_, below_setCells (by omega) _ _ _ hbf⟩
  · rw [HD2E.out, HDC1.out, ← put_hold]
    have hF := below_setCells (b := w.heap.size + 2) (by omega) (dcells (d2.set kd 0)).toList 0 _ hbf
    rw [HD2E.out, HDC1.out] at hF
    have hv4 := sl_setCells (fresh_ne HFR.out (by omega : w.heap.size + 2 < w.heap.size + 3)) (dcells (d2.set kd 0)).toList 0 _ hv3
    rw [HD2E.out, HDC1.out] at hv4
    exact (((HC.out.below hF).hold false 0).put (op := 18) (by show mStoreOk c.m 18 a = true; rw [store_load]; exact hq) HA.out hl hv4).set kd 0
  · rw [HD2E.out]; exact fun q e => Nat.le_of_lt (Nat.lt_of_lt_of_le (by omega) (HFR.out q e))
  · rw [HD2E.out, HDC1.out]; rfl
theorem atom4_op (d : DidD) (c : CoreD) (w : World) (hc : DidOf w d c) (wf : c.Wf) (hl : c.m.length ≤ 4096) (op : Int) (kd k1 k2 : Nat) (imm : Int) (hop : 48 ≤ op ∧ op ≤ 56) (hk : kd < 32) (a b : Int) (ha : U32 a) (hb' : U32 b) (hq : mLoadOk c.m 13 a = true) :
    Calls Try.prog 92 #[.agg (dcells d), .agg #[.int .i64 op, .int .i64 kd, .int .i64 k1, .int .i64 k2, .int .i32 imm], .int .u32 a, .int .u32 b] w fun e w' => ∃ d', e = .returned (.tuple #[.agg (dcells d'), .bool true]) ∧ DidOf w' d' ((c.put 18 a (amo op (mLoad c.m 13 a) b)).set kd (mLoad c.m 13 a)) ∧ (d'.vm = d.vm ∨ ∀ q, d'.vm.ownBlock = some q → w.heap.size ≤ q) ∧ d'.vo = d.vo ∧ Below w.heap.size w w' := by
  have d_ok := hc.ok wf
  have HC := Lib.hid hc
  have HL := Lib.hid (fun W hW => load3_any d.vm c.m 13 a W hW ha wf.m.getD)
  have HA := Lib.hid ha
  have HB := Lib.hid hb'
  obtain ⟨o0, o1⟩ := hop
  have f46 : (op == 46) = false := beq_eq_false_iff_ne.2 (by omega)
  have f47 : (op == 47) = false := beq_eq_false_iff_ne.2 (by omega)
  obtain ⟨old, hold⟩ : ∃ x, x = mLoad c.m 13 a := ⟨_, rfl⟩
  rw [hq, ← hold] at HL
  have HLU := Lib.hid (mLoad_u c.m 13 a (by omega) ha wf.m.getD)
  rw [← hold] at HLU
  (try rw [← hold])
  have HAM := Lib.hid (fun W => amo1_any op old b W HLU.out.1 HLU.out.2 HB.out.1 HB.out.2)
  have HX := Lib.hid (amo_lo op old b HLU.out HB.out)
  generalize amo op old b = x at *
  clear hc
  go_enter Try.func92, Try.ntmps92
  go_upto_region 1 with (fail)
  show Code.wp _ _ _ _ (((w.alloc (.cells (dcells d) 76)).alloc (.cells #[.int .i64 op, .int .i64 kd, .int .i64 k1, .int .i64 k2, .int .i32 imm] 38)).alloc (.cells (dcells did0) 76))
  have hD := DBox.begin2 (w := w) (tD := 76) (d := d) (z := dcells did0) (o := .cells #[.int .i64 op, .int .i64 kd, .int .i64 k1, .int .i64 k2, .int .i32 imm] 38) (dcells_size did0_ok)
  have hb0 : Below w.heap.size w (((w.alloc (.cells (dcells d) 76)).alloc (.cells #[.int .i64 op, .int .i64 kd, .int .i64 k1, .int .i64 k2, .int .i32 imm] 38)).alloc (.cells (dcells did0) 76)) := Fb.blw
  have hs0 : (((w.alloc (.cells (dcells d) 76)).alloc (.cells #[.int .i64 op, .int .i64 kd, .int .i64 k1, .int .i64 k2, .int .i32 imm] 38)).alloc (.cells (dcells did0) 76)).heap.size = w.heap.size + 3 := by simp
  have q0 : (((w.alloc (.cells (dcells d) 76)).alloc (.cells #[.int .i64 op, .int .i64 kd, .int .i64 k1, .int .i64 k2, .int .i32 imm] 38)).alloc (.cells (dcells did0) 76)).cell? ⟨w.heap.size + 1, 0, none⟩ = some (.int .i64 op) := by go_cell
  have q1 : (((w.alloc (.cells (dcells d) 76)).alloc (.cells #[.int .i64 op, .int .i64 kd, .int .i64 k1, .int .i64 k2, .int .i32 imm] 38)).alloc (.cells (dcells did0) 76)).cell? ⟨w.heap.size + 1, 1, none⟩ = some (.int .i64 kd) := by go_cell
  have q2 : (((w.alloc (.cells (dcells d) 76)).alloc (.cells #[.int .i64 op, .int .i64 kd, .int .i64 k1, .int .i64 k2, .int .i32 imm] 38)).alloc (.cells (dcells did0) 76)).cell? ⟨w.heap.size + 1, 2, none⟩ = some (.int .i64 k1) := by go_cell
  have q3 : (((w.alloc (.cells (dcells d) 76)).alloc (.cells #[.int .i64 op, .int .i64 kd, .int .i64 k1, .int .i64 k2, .int .i32 imm] 38)).alloc (.cells (dcells did0) 76)).cell? ⟨w.heap.size + 1, 3, none⟩ = some (.int .i64 k2) := by go_cell
  have q4 : (((w.alloc (.cells (dcells d) 76)).alloc (.cells #[.int .i64 op, .int .i64 kd, .int .i64 k1, .int .i64 k2, .int .i32 imm] 38)).alloc (.cells (dcells did0) 76)).cell? ⟨w.heap.size + 1, 4, none⟩ = some (.int .i32 imm) := by go_cell
  generalize ((w.alloc (.cells (dcells d) 76)).alloc (.cells #[.int .i64 op, .int .i64 kd, .int .i64 k1, .int .i64 k2, .int .i32 imm] 38)).alloc (.cells (dcells did0) 76) = w1 at *
  have c37 : w1.cell? ⟨w.heap.size, 37, none⟩ = some d.vm := hD.get (dlist_t d_ok.len 0)
  have HD := Lib.hid hD
  clear hD hold
  go_upto_region 18 with (go_at_call 76; refine (HL.out _ (HC.out.m.below hb0)).mono ?_; rintro e w2 ⟨rfl, rfl⟩)
  go_upto_region 19 with (go_at_call 22; refine (HAM.out _).mono ?_; rintro e w3 ⟨rfl, nn, rfl⟩)
  have HDn := Lib.hid (HD.out.drewN nn)
  have r1 : (w1.drewN nn).cell? ⟨w.heap.size + 1, 1, none⟩ = some (.int .i64 kd) := q1
  have hbz : Below w.heap.size w (w1.drewN nn) := below_drewN hb0 _
  have hszn : (w1.drewN nn).heap.size = w.heap.size + 3 := hs0
  generalize w1.drewN nn = wz at *
  have hm1 : Ints .u8 wz d.vm c.m := HC.out.m.below hbz
  go_wp2_with (first | (refine wpList_load_at rfl 76 _ rfl (w.heap.size) 0 rfl (dcells d) _ HDn.out.at_ Try.underlying76 rfl (did_size d_ok) ?_))
  refine (store4_yes d d_ok c.m 18 a x _ hm1 HA.out HX.out wf.mlen (by rw [store_load]; exact hq)).mono ?_
  rintro e w2 ⟨v', rfl, hv', hfr', hb2⟩
  have hsz2 := hb2.size
  obtain ⟨d2, hd2⟩ : ∃ d2, d2 = ({ d with vm := v', fr := a, many := msize 18 } : DidD) := ⟨_, rfl⟩
  have d2_ok : d2.Ok := by rw [hd2]; exact ⟨d_ok.len, hv'.one, d_ok.o1⟩
  rw [← hd2]
  have HB2 := HDn.out.below (by omega) (by omega) hb2
  have htB := HB2.thereB d_ok d2_ok
  have HD2 := Lib.hid (HB2.put d_ok d2_ok)
  have hbe := below_setCells (b := w.heap.size) (Nat.le_refl _) (dcells d2).toList 0 _ (hbz.trans (hb2.mono (by omega)))
  have r2 : (w2.setCells w.heap.size 0 (dcells d2).toList).cell? ⟨w.heap.size + 1, 1, none⟩ = some (.int .i64 kd) := (World.cell?_setCells_out _ _ _ _ _ (fun hb _ => absurd hb (by simp))).trans ((hb2.cell (p := ⟨w.heap.size + 1, 1, none⟩) (by show w.heap.size + 1 < _; omega)).trans r1)
  have hv2 : Ints .u8 (w2.setCells w.heap.size 0 (dcells d2).toList) v' (mStore c.m 18 a x) := sl_setCells (fresh_ne hfr' (by omega)) _ _ _ hv'
  have hs2w : w.heap.size + 3 ≤ (w2.setCells w.heap.size 0 (dcells d2).toList).heap.size := by rw [size_setCells]; omega
  have HFR : Hid (∀ q, v'.ownBlock = some q → w.heap.size + 3 ≤ q) := Lib.hid (fun q e => by have := hfr' q e; omega)
  have HD2E := Lib.hid hd2
  clear hb2 q0 q1 q2 q3 q4 r1 hd2 HB2 hm1 hv' hfr'
  go_upto_region 20 with (first | (refine wpList_store_mid rfl 76 _ _ rfl w.heap.size 0 (dcells d2) rfl rfl htB (did_size d2_ok) (dlist_all d2_ok) ?_))
  generalize w2.setCells w.heap.size 0 (dcells d2).toList = wy at *
  go_wp2_with (first | (refine wpList_load_at rfl 76 _ rfl (w.heap.size) 0 rfl (dcells d2) _ HD2.out.at_ Try.underlying76 rfl (did_size d2_ok) ?_))
  refine (set4_any d2 d2_ok kd hk old _).mono ?_
  rintro e w3 ⟨rfl, hb3⟩
  have HD3 := Lib.hid (HD2.out.below (by omega) (by omega) hb3)
  have d3_ok : (d2.set kd old).Ok := d2_ok.setReg _ _
  have hbf := hbe.trans (hb3.mono (by omega))
  have hv3 := hv2.below hb3
  clear hb3 r2
  have ht : (w3).there (w.heap.size + 2) 0 (dcells (d2.set kd old)).size := by rw [dcells_size d3_ok]; exact HD3.out.there
  have hld := load_setCells (P := Try.prog) ht Try.underlying76 rfl (did_size d3_ok)
  go_wp2_with (first | (refine wpList_store_mid rfl 76 _ _ rfl (w.heap.size + 2) 0 (dcells (d2.set kd old)) rfl rfl ht (did_size d3_ok) (dlist_all d3_ok) ?_))
  refine bodyPost_ret (results_c1t (by rfl) _ (by rfl) hld) rfl ⟨_, rfl, ?_, .inr ?_, ?_, below_setCells (by omega) _ _ _ hbf⟩
  · rw [HD2E.out]
    have hF := below_setCells (b := w.heap.size + 2) (by omega) (dcells (d2.set kd old)).toList 0 _ hbf
    rw [HD2E.out] at hF
    have hv4 := sl_setCells (fresh_ne HFR.out (by omega : w.heap.size + 2 < w.heap.size + 3)) (dcells (d2.set kd old)).toList 0 _ hv3
    rw [HD2E.out] at hv4
    exact ((HC.out.below hF).put (op := 18) (by rw [store_load]; exact hq) HA.out hl hv4).set kd old
  · rw [HD2E.out]; exact fun q e => Nat.le_of_lt (Nat.lt_of_lt_of_le (by omega) (HFR.out q e))
  · rw [HD2E.out]; rfl
end Go.Proofs.Ytlfnddmncbkjaab.W
namespace Go.Proofs.Ytlfnddmncbkjaab.Fb
open Go.RowKit
theorem list32 {l : List Int} (h : l.length = 32) : ∃ a0 a1 a2 a3 a4 a5 a6 a7 a8 a9 a10 a11 a12 a13 a14 a15 a16 a17 a18 a19 a20 a21 a22 a23 a24 a25 a26 a27 a28 a29 a30 a31 : Int, l = [a0, a1, a2, a3, a4, a5, a6, a7, a8, a9, a10, a11, a12, a13, a14, a15, a16, a17, a18, a19, a20, a21, a22, a23, a24, a25, a26, a27, a28, a29, a30, a31] := by
  match l, h with
  | [a0, a1, a2, a3, a4, a5, a6, a7, a8, a9, a10, a11, a12, a13, a14, a15, a16, a17, a18, a19, a20, a21, a22, a23, a24, a25, a26, a27, a28, a29, a30, a31], _ => exact ⟨a0, a1, a2, a3, a4, a5, a6, a7, a8, a9, a10, a11, a12, a13, a14, a15, a16, a17, a18, a19, a20, a21, a22, a23, a24, a25, a26, a27, a28, a29, a30, a31, rfl⟩
theorem wpList_buildV {P : Program} {ops : Array Oper} {rest : List Oper} {o : Oper} {a : Act} {w : World} {Q : Exit → Act → World → Prop} (hgd : o.guard = none) (t : TypeId) (ps : Array (Nat × Operand)) (ho : o.op = .build t ps) (vs : Array (Nat × Value)) (hv : (ps.map fun (i, x) => (i, a.eval x)) = vs)
    (v : Value) (hr : (Instr.build t vs).run P w = .ok v w) (h : wpList P ops Q rest (a.put o.dst v) w) : wpList P ops Q (o :: rest) a w :=
  wpList_plain hgd fun K hK => by
    unfold Oper.wp execOp
    simp only [ho, hv, Sem.run_bind, hr, Result.andThen_ok]
    exact hK _ _ h
end Go.Proofs.Ytlfnddmncbkjaab.Fb
namespace Go.Proofs.Ytlfnddmncbkjaab.W
open Go.RowKit Fb
theorem build_did (h : Hart) (wf : h.regs.length = 32) (v : Value) (hv : v.oneCell' = true) (ao : Option Addr) (n cap : Nat) (hs : v = .slice ao n cap) (w : World) : (Instr.build 76 #[(0, .agg (hcells h)), (1, v)]).run Try.prog w = .ok (.agg (dcells ⟨h, v, .slice none 0 0, 0, 0⟩)) w := by
  subst hs
  obtain ⟨regs, pc, held, heldAt, state, cause⟩ := h
  obtain ⟨a0, a1, a2, a3, a4, a5, a6, a7, a8, a9, a10, a11, a12, a13, a14, a15, a16, a17, a18, a19, a20, a21, a22, a23, a24, a25, a26, a27, a28, a29, a30, a31, rfl⟩ := list32 wf
  kernel_rfl
end Go.Proofs.Ytlfnddmncbkjaab.W
