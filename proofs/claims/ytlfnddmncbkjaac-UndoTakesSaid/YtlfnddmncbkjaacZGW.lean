import Derived.Test.YtlfnddmncbkjaacZGD
import Derived.Test.YtlfnddmncbkjaacZWDecode2
set_option linter.unusedVariables false
set_option linter.unusedSimpArgs false
set_option maxRecDepth 100000
set_option maxHeartbeats 4000000
namespace Go.Proofs.Ytlfnddmncbkjaac.Fb
theorem atomS_out (c : CoreD) (op a b : Int) : (atomS c op a b).1.out = c.out := by
  unfold atomS
  split
  · split
    · rfl
    · split
      · split
        · show (c.put 18 a b).out = c.out; exact CoreD.put_out _ _ _ _
        · rfl
      · exact CoreD.put_out _ _ _ _
  · rfl
def atomR (c : CoreD) (op a b : Int) (kd : Int) : CoreD := if (atomS c op a b).2.2 = true then (atomS c op a b).1.set kd (atomS c op a b).2.1 else (atomS c op a b).1
theorem atomR_out (c : CoreD) (op a b kd : Int) : (atomR c op a b kd).out = c.out := by
  unfold atomR
  split
  · exact atomS_out c op a b
  · exact atomS_out c op a b
theorem atomR_wf {c : CoreD} (wf : c.Wf) (op a b kd : Int) (ha : U32 a) (hb : U32 b) : (atomR c op a b kd).Wf := by
  unfold atomR
  split
  · exact (atomS_wf wf op a b ha hb).1.set _ _ (atomS_wf wf op a b ha hb).2
  · exact (atomS_wf wf op a b ha hb).1
end Go.Proofs.Ytlfnddmncbkjaac.Fb
namespace Go.Proofs.Ytlfnddmncbkjaac.W
open Go.RowKit Fb
theorem atom4_any (d : DidD) (c : CoreD) (w : World) (hc : DidOf w d c) (wf : c.Wf) (hl : c.m.length ≤ 4096) (op : Int) (kd k1 k2 : Nat) (imm : Int) (hop : 46 ≤ op ∧ op ≤ 56) (hk : kd < 32) (a b : Int) (ha : U32 a) (hb' : U32 b) :
    Calls Try.prog 57 #[.agg (dcells d), .agg #[.int .i64 op, .int .i64 kd, .int .i64 k1, .int .i64 k2, .int .i32 imm], .int .u32 a, .int .u32 b] w fun e w' => ∃ d', e = .returned (.tuple #[.agg (dcells d'), .bool (atomS c op a b).2.2]) ∧ DidOf w' d' (atomR c op a b kd) ∧ (d'.vm = d.vm ∨ ∀ q, d'.vm.ownBlock = some q → w.heap.size ≤ q) ∧ d'.vo = d.vo ∧ Below w.heap.size w w' := by
  cases hq : mLoadOk c.m 13 a with
  | false =>
    by_cases h46 : op = 46
    · subst h46
      have e : atomS c 46 a b = (c.trap 3, 0, false) := by unfold atomS; rw [hq]; rfl
      unfold atomR
      rw [e]
      exact atom4_lr_no d c w hc wf hl kd k1 k2 imm hk a b ha hb' hq
    · have e : atomS c op a b = (c.trap 4, 0, false) := by unfold atomS; rw [hq, if_neg zN, if_neg h46]
      unfold atomR
      rw [e]
      exact atom4_no d c w hc wf hl op kd k1 k2 imm om hk a b ha hb' hq
  | true =>
    by_cases h46 : op = 46
    · subst h46
      have e : atomS c 46 a b = (c.hold true a, mLoad c.m 13 a, true) := by unfold atomS; rw [hq]; rfl
      unfold atomR
      rw [e]
      exact atom4_lr d c w hc wf hl kd k1 k2 imm hk a b ha hb' hq
    · by_cases h47 : op = 47
      · subst h47
        by_cases hm : (c.h.held && c.h.heldAt == a) = true
        · have e : atomS c 47 a b = ((c.put 18 a b).hold false 0, 0, true) := by unfold atomS; rw [hq, if_pos rfl, if_neg om, if_pos rfl, if_pos hm]
          unfold atomR
          rw [e]
          rw [Bool.and_eq_true, beq_iff_eq] at hm
          exact atom4_sc d c w hc wf hl kd k1 k2 imm hk a b ha hb' hq hm.1 hm.2
        · have e : atomS c 47 a b = (c.hold false 0, 1, true) := by unfold atomS; rw [hq, if_pos rfl, if_neg om, if_pos rfl, if_neg hm]
          unfold atomR
          rw [e]
          refine atom4_sc_no d c w hc wf hl kd k1 k2 imm hk a b ha hb' hq ?_
          cases hh : c.h.held with
          | false => exact .inl rfl
          | true => exact .inr ⟨rfl, fun e => hm (by rw [hh, e]; simp)⟩
      · have e : atomS c op a b = (c.put 18 a (amo op (mLoad c.m 13 a) b), mLoad c.m 13 a, true) := by unfold atomS; rw [hq, if_pos rfl, if_neg h46, if_neg h47]
        unfold atomR
        rw [e]
        exact atom4_op d c w hc wf hl op kd k1 k2 imm om hk a b ha hb' hq
theorem step4_atom_no (h : Hart) (wf : h.Wf) (v : Value) (l : List Int) (w : World) (hv : Ints .u8 w v l) (hb : Bytes l) (hl : l.length ≤ 4096) (hok : mLoadOk l 13 h.pc = true) (op : Int) (kd k1 k2 : Nat) (imm : Int) (hop : 46 ≤ op ∧ op ≤ 56) (hk : kd < 32) (h1 : k1 < 32) (h2 : k2 < 32) (hi : -2147483648 ≤ imm ∧ imm ≤ 2147483647) (hdec : dec (mLoad l 13 h.pc) = some ⟨op, kd, k1, k2, imm⟩) (hq : (atomS (⟨h, l, [], 0, 0⟩ : CoreD) op (h.reg k1) (h.reg k2)).2.2 = false) :
    Calls Try.prog 34 #[.agg (hcells h), v] w fun e w' => ∃ d', e = .returned (.agg (dcells d')) ∧ DidOf w' d' (doS ⟨op, kd, k1, k2, imm⟩ (⟨h, l, [], 0, 0⟩ : CoreD)) ∧ (d'.vm = v ∨ ∀ q, d'.vm.ownBlock = some q → w.heap.size ≤ q) ∧ (∀ q, d'.vo.ownBlock = some q → w.heap.size ≤ q) ∧ Below w.heap.size w w' := by
  obtain ⟨o0, o1⟩ := hop
  have f1 : (op == 1) = false := beq_eq_false_iff_ne.2 om
  have f2 : (op == 2) = false := beq_eq_false_iff_ne.2 om
  have f3 : (op == 3) = false := beq_eq_false_iff_ne.2 om
  have f4 : (op == 4) = false := beq_eq_false_iff_ne.2 om
  obtain ⟨i0, i1⟩ := hi
  obtain ⟨xa, hxa⟩ : ∃ x, x = h.regs.getD k1 0 := ⟨_, rfl⟩
  obtain ⟨xb, hxb⟩ : ∃ x, x = h.regs.getD k2 0 := ⟨_, rfl⟩
  obtain ⟨xn, hxn⟩ : ∃ x, x = imm % 4294967296 := ⟨_, rfl⟩
  obtain ⟨pc, hpcv⟩ : ∃ x, x = h.pc := ⟨_, rfl⟩
  have era : h.reg (k1 : Int) = xa := by rw [hxa]; rfl
  have erb : h.reg (k2 : Int) = xb := by rw [hxb]; rfl
  rw [era, erb] at hq
  have ua : U32 xa := by rw [← era]; exact reg_u wf _
  have ub : U32 xb := by rw [← erb]; exact reg_u wf _
  have un : U32 xn := by rw [hxn]; exact mod_lo _
  have up : U32 pc := by rw [hpcv]; exact wf.pc
  obtain ⟨c0, hc0⟩ : ∃ c, c = (⟨h, l, [], 0, 0⟩ : CoreD) := ⟨_, rfl⟩
  have e : doS ⟨op, kd, k1, k2, imm⟩ (⟨h, l, [], 0, 0⟩ : CoreD) = atomR c0 op xa xb kd := by
    rw [hc0]
    unfold doS
    dsimp only
    rw [era, erb, ← hxn, ← hpcv]
    rw [if_neg om, if_neg om, if_neg om, if_neg om, if_neg om, if_neg om, if_neg om, if_neg om, if_neg om, if_pos om, if_neg yJ]
    unfold atomR; rw [if_neg yJ]
  rw [e]
  clear e
  have HC0 := lI hc0
  have HA := lI ua
  have HB := lI ub
  have HN := lI un
  have HU := lI up
  have HPC : Hid (h.pc = pc) := lI hpcv.symm
  have HOf : Hid (∀ W, Calls Try.prog 50 #[.int .i64 imm] W fun e w' => e = .returned (.int .u32 xn) ∧ W = w') := lI (fun W => by rw [hxn]; exact of1_any imm W om)
  have HS1 := lI (fun W => sum4_any pc 4 W up ⟨by decide, by decide⟩)
  have HS2 := lI (fun W => sum4_any xa xn W ua un)
  have HWC : Hid c0.Wf := lI (by rw [hc0]; exact ⟨wf, hb, by simp, (⟨by decide, by decide⟩ : U32 0), (⟨by decide, by decide⟩ : U32 0), zM, by simp⟩)
  rw [← hc0] at hq
  clear era erb ua ub un up hxn hc0 hpcv
  obtain ⟨ao, cap, hve, _⟩ := hv.open
  have HV := lI hv
  have wfc : ((⟨h, l, [], 0, 0⟩ : CoreD)).Wf := ⟨wf, hb, by simp, (⟨by decide, by decide⟩ : U32 0), (⟨by decide, by decide⟩ : U32 0), zM, by simp⟩
  obtain ⟨d0, hd0⟩ : ∃ d0, d0 = (⟨h, v, .slice none 0 0, 0, 0⟩ : DidD) := ⟨_, rfl⟩
  have d0_ok : d0.Ok := by rw [hd0]; exact ⟨wf.len, hv.one, rfl⟩
  have HBD := lI (fun W => build_did h wf.len v hv.one ao _ cap hve W)
  rw [← hd0] at HBD
  have hbox : At (w.alloc (.cells (hcells h) 67)) w.heap.size 0 (hlist h) := at_alloc w (hlist h) 67 (0, 0)
  have hsz : (Try.prog.info? 67).map (·.size) = some (hcells h).size := by rw [hcells_size wf]; kernel_rfl
  have HDO : Hid (∀ W, Ints .u8 W v l → DidOf W d0 c0) := lI (fun W hW => by rw [hd0, HC0.out]; exact ⟨rfl, hW, Sl.nil _ _, rfl, rfl⟩)
  have HD0E := lI hd0
  subst hve
  clear hv hd0
  go_enter Try.func34, Try.ntmps34
  go_upto_region 1 with (fail)
  show Code.wp _ _ _ _ ((w.alloc (.cells (hcells h) 67)).alloc (.cells (dcells did0) 88))
  have hb1 : At ((w.alloc (.cells (hcells h) 67)).alloc (.cells (dcells did0) 88)) w.heap.size 0 (hlist h) := hbox.below Fb.blw
  have hbz1 : Below w.heap.size w ((w.alloc (.cells (hcells h) 67)).alloc (.cells (dcells did0) 88)) := Fb.blw
  have hs1 : (((w.alloc (.cells (hcells h) 67)).alloc (.cells (dcells did0) 88))).heap.size = w.heap.size + 2 := by simp
  have hR1 := there_begin h (w := w) (tH := 67) (tD := 88)
  generalize ((w.alloc (.cells (hcells h) 67)).alloc (.cells (dcells did0) 88)) = w1 at *
  have HSZ1 := lI hs1
  clear hs1
  go_upto_region 2 with (first | (refine wpList_load_at rfl 67 _ rfl w.heap.size 0 rfl (hcells h) _ hb1 Try.underlying67 rfl hsz ?_) | (refine wpList_buildV rfl 88 _ rfl #[(0, .agg (hcells h)), (1, .slice ao l.length cap)] zD _ (HBD.out _) ?_) | (refine wpList_store_new rfl 88 _ _ rfl w1 _ (dcells d0) rfl rfl rfl (did_size d0_ok) zL (dlist_one d0_ok) ?_))
  have hs1 := HSZ1.out
  have hD := DBox.begin3 (w := w1) (tD := 88) (d := d0) hR1 om
  have hb2 := hb1.below (Below.alloc br (Nat.le_refl _) (.cells (dcells d0) 88))
  have hbz2 : Below w.heap.size w (w1.alloc (.cells (dcells d0) 88)) := hbz1.trans (Below.alloc br om _)
  have hs2 : (w1.alloc (.cells (dcells d0) 88)).heap.size = w.heap.size + 3 := by simp; omega
  rw [hs1] at hD
  have e12 : w1.heap.size = w.heap.size + 2 := hs1
  rw [e12]
  generalize w1.alloc (.cells (dcells d0) 88) = w2 at *
  have hpc := hb2.get (hlist_pc wf)
  simp only [Nat.zero_add] at hpc
  clear hb1 hbz1 hs1 hR1 e12
  have HL := lI (fun W hW => load3_any (.slice ao l.length cap) l 13 h.pc W hW wf.pc hb.getD)
  rw [hok] at HL
  clear hok
  have HDc := lI (fun W => decode2_any (mLoad l 13 h.pc) W (mLoad_u13 l h.pc wf.pc hb.getD))
  rw [hdec] at HDc
  simp only [Option.getD_some, Option.isSome_some, icells] at HDc
  go_upto_region 5 with (go_at_call 40; refine (HL.out _ (HV.out.below hbz2)).mono ?_; rintro e w3 ⟨rfl, rfl⟩)
  go_wp2_with fail
  refine (HDc.out _).mono ?_
  rintro e w3 ⟨rfl, hb3⟩
  obtain ⟨w4, hw4⟩ : ∃ w4, w4 = w3.alloc (.cells #[.int .i64 op, .int .i64 kd, .int .i64 k1, .int .i64 k2, .int .i32 imm] 110) := ⟨_, rfl⟩
  have hs3 := hb3.size
  have hB4 : Below w2.heap.size w2 w4 := by rw [hw4]; exact hb3.trans (Below.alloc br hs3 _)
  have hs4 : w4.heap.size = w3.heap.size + 1 := by rw [hw4]; simp
  have q0 : w4.cell? ⟨w3.heap.size, 0, none⟩ = some (.int .i64 op) := by rw [hw4]; go_cell
  have q1 : w4.cell? ⟨w3.heap.size, 1, none⟩ = some (.int .i64 kd) := by rw [hw4]; go_cell
  have q2 : w4.cell? ⟨w3.heap.size, 2, none⟩ = some (.int .i64 k1) := by rw [hw4]; go_cell
  have q3 : w4.cell? ⟨w3.heap.size, 3, none⟩ = some (.int .i64 k2) := by rw [hw4]; go_cell
  have q4 : w4.cell? ⟨w3.heap.size, 4, none⟩ = some (.int .i32 imm) := by rw [hw4]; go_cell
  have hh4 : At w4 w.heap.size 0 (hlist h) := hb2.below hB4
  have HD5 := lI ((hD.below om om hB4))
  have hra := hh4.get (hlist_reg wf k1 h1)
  have hrb := hh4.get (hlist_reg wf k2 h2)
  have hpc4 := hh4.get (hlist_pc wf)
  simp only [Nat.zero_add] at hra hrb hpc4
  rw [← hxa] at hra
  rw [← hxb] at hrb
  have hbz4 : Below w.heap.size w w4 := hbz2.trans (hB4.mono om)
  have HW4 := lI hw4
  clear hw4 hb2 hB4 hb3 hD hpc hbz2 hxa hxb
  have j1 : (k1 : Int) < 32 := om
  have j2 : (k2 : Int) < 32 := om
  go_upto_region 6 with (fail)
  rw [← HW4.out]
  rw [HPC.out] at hpc4
  go_upto_region 13 with (first | (go_at_call 50; refine (HOf.out _).mono ?_; rintro e w' ⟨rfl, rfl⟩) | (go_at_call 51; refine (HS1.out _).mono ?_; rintro e w' ⟨rfl, na, rfl⟩) | (go_at_call 51; refine (HS2.out _).mono ?_; rintro e w' ⟨rfl, nb, rfl⟩))
  have hpc5 : (w4.drewN (na + nb)).cell? ⟨w.heap.size, 32, none⟩ = some (.int .u32 pc) := hpc4
  have hh5 : At (w4.drewN (na + nb)) w.heap.size 0 (hlist h) := hh4
  have HD6 := lI (HD5.out.drewN (na + nb))
  have hbz : Below w.heap.size w (w4.drewN (na + nb)) := below_drewN hbz4 _
  have hsz5 : (w4.drewN (na + nb)).heap.size = w3.heap.size + 1 := hs4
  have p0 : (w4.drewN (na + nb)).cell? ⟨w3.heap.size, 0, none⟩ = some (.int .i64 op) := q0
  have p1 : (w4.drewN (na + nb)).cell? ⟨w3.heap.size, 1, none⟩ = some (.int .i64 kd) := q1
  have p2 : (w4.drewN (na + nb)).cell? ⟨w3.heap.size, 2, none⟩ = some (.int .i64 k1) := q2
  have p3 : (w4.drewN (na + nb)).cell? ⟨w3.heap.size, 3, none⟩ = some (.int .i64 k2) := q3
  have p4 : (w4.drewN (na + nb)).cell? ⟨w3.heap.size, 4, none⟩ = some (.int .i32 imm) := q4
  clear q0 q1 q2 q3 q4 hpc4 hh4 HD5 hra hrb hbz4 hs4
  generalize w4.drewN (na + nb) = w5 at *
  go_upto_region 42 with (fail)
  go_wp2_with (first | (refine wpList_load_at rfl 88 _ rfl (w.heap.size + 2) 0 rfl (dcells d0) _ HD6.out.at_ Try.underlying88 rfl (did_size d0_ok) ?_))
  refine (atom4_any d0 c0 _ (HDO.out _ (HV.out.below hbz)) HWC.out (by rw [HC0.out]; exact hl) op kd k1 k2 imm ⟨o0, o1⟩ hk xa xb HA.out HB.out).mono ?_
  rw [show (atomS c0 op xa xb).2.2 = false from hq]
  rintro e w6 ⟨d1, rfl, hdo, hfr', hvo', hb6⟩
  have d1_ok : d1.Ok := hdo.ok (atomR_wf HWC.out op xa xb kd HA.out HB.out)
  obtain ⟨c1m, hc1m⟩ : ∃ x, x = (atomR c0 op xa xb kd).m := ⟨_, rfl⟩
  have hm6 : Ints .u8 w6 d1.vm c1m := by rw [hc1m]; exact hdo.m
  have HFR : Hid (d1.vm = .slice ao l.length cap ∨ ∀ q, d1.vm.ownBlock = some q → w.heap.size + 3 ≤ q) := lI (hfr'.imp (fun e => by rw [e, HD0E.out]) (fun hf q e => by have := hf q e; omega))
  have HVO : Hid (d1.vo = .slice none 0 0) := lI (by rw [hvo', HD0E.out])
  have HDD : Hid (∀ W, Ints .u8 W d1.vm c1m → DidOf W d1 (atomR c0 op xa xb kd)) := lI (fun W hm => ⟨hdo.h, by rw [hc1m] at hm; exact hm, by rw [hvo', HD0E.out, atomR_out, HC0.out]; exact Sl.nil _ _, hdo.fr, hdo.many⟩)
  clear hdo hfr' hvo' hc1m
  have hs6 := hb6.size
  have HB6 := HD6.out.below om om hb6
  have htB := HB6.thereB d0_ok d1_ok
  have HD7 := lI (HB6.put d0_ok d1_ok)
  have hb60 := hbz.trans (hb6.mono om)
  have hbe := below_setCells (b := w.heap.size + 2) om (dcells d1).toList 0 _ hb60
  have hm7 : Ints .u8 (w6.setCells (w.heap.size + 2) 0 (dcells d1).toList) d1.vm c1m := by
    rcases HFR.out with e | hf
    · rw [e]; exact ints_old HV.out (by rw [← e]; exact hm6) hb60 hbe
    · exact sl_setCells (fresh_ne hf om) _ _ _ hm6
  clear hb6 HB6 p0 p1 p2 p3 p4 hh5 hpc5 hm6 hb60
  go_upto_region 44 with (first | (refine wpList_store_mid rfl 88 _ _ rfl (w.heap.size + 2) 0 (dcells d1) rfl rfl htB (did_size d1_ok) (dlist_all d1_ok) ?_))
  generalize w6.setCells (w.heap.size + 2) 0 (dcells d1).toList = w7 at *
  obtain ⟨d9, hd9⟩ : ∃ d9, d9 = d1 := ⟨_, rfl⟩
  have d9_ok : d9.Ok := by rw [hd9]; exact d1_ok
  have HD9 : Hid (DBox (w.heap.size + 2) (w.heap.size + 1) 88 w7 d9) := lI (by rw [hd9]; exact HD7.out)
  have hbf := hbe
  have HD9E := lI hd9
  clear hd9
  have ht := HD9.out.there
  rw [← dcells_size d9_ok] at ht
  have hld := load_setCells (P := Try.prog) ht Try.underlying88 rfl (did_size d9_ok)
  go_wp2_with (first | (refine wpList_load_at rfl 88 _ rfl (w.heap.size + 2) 0 rfl (dcells d9) _ HD9.out.at_ Try.underlying88 rfl (did_size d9_ok) ?_) | (refine wpList_store_mid rfl 88 _ _ rfl (w.heap.size + 1) 0 (dcells d9) rfl rfl ht (did_size d9_ok) (dlist_all d9_ok) ?_))
  have hW := below_setCells (b := w.heap.size + 1) om (dcells d9).toList 0 _ hbf
  refine bodyPost_ret (results_c1 zE _ zE hld) rfl ⟨d9, rfl, ?_, ?_, ?_, hW⟩
  · have hmF : Ints .u8 (w7.setCells (w.heap.size + 1) 0 (dcells d9).toList) d1.vm c1m := by
      rcases HFR.out with e | hf
      · rw [e]; exact ints_old HV.out (by rw [← e]; exact hm7) hbe hW
      · exact sl_setCells (fresh_ne hf om) _ _ _ hm7
    have hX := HDD.out _ hmF
    rw [HD9E.out] at hX ⊢
    exact hX
  · rcases HFR.out with e | hf
    · exact .inl (by rw [HD9E.out]; exact e)
    · exact .inr yH
  · rw [HD9E.out]; intro q e; rw [show (d1 : DidD).vo = .slice none 0 0 from HVO.out] at e; cases e
theorem step4_atom_yes (h : Hart) (wf : h.Wf) (v : Value) (l : List Int) (w : World) (hv : Ints .u8 w v l) (hb : Bytes l) (hl : l.length ≤ 4096) (hok : mLoadOk l 13 h.pc = true) (op : Int) (kd k1 k2 : Nat) (imm : Int) (hop : 46 ≤ op ∧ op ≤ 56) (hk : kd < 32) (h1 : k1 < 32) (h2 : k2 < 32) (hi : -2147483648 ≤ imm ∧ imm ≤ 2147483647) (hdec : dec (mLoad l 13 h.pc) = some ⟨op, kd, k1, k2, imm⟩) (hq : (atomS (⟨h, l, [], 0, 0⟩ : CoreD) op (h.reg k1) (h.reg k2)).2.2 = true) :
    Calls Try.prog 34 #[.agg (hcells h), v] w fun e w' => ∃ d', e = .returned (.agg (dcells d')) ∧ DidOf w' d' (doS ⟨op, kd, k1, k2, imm⟩ (⟨h, l, [], 0, 0⟩ : CoreD)) ∧ (d'.vm = v ∨ ∀ q, d'.vm.ownBlock = some q → w.heap.size ≤ q) ∧ (∀ q, d'.vo.ownBlock = some q → w.heap.size ≤ q) ∧ Below w.heap.size w w' := by
  obtain ⟨o0, o1⟩ := hop
  have f1 : (op == 1) = false := beq_eq_false_iff_ne.2 om
  have f2 : (op == 2) = false := beq_eq_false_iff_ne.2 om
  have f3 : (op == 3) = false := beq_eq_false_iff_ne.2 om
  have f4 : (op == 4) = false := beq_eq_false_iff_ne.2 om
  obtain ⟨i0, i1⟩ := hi
  obtain ⟨xa, hxa⟩ : ∃ x, x = h.regs.getD k1 0 := ⟨_, rfl⟩
  obtain ⟨xb, hxb⟩ : ∃ x, x = h.regs.getD k2 0 := ⟨_, rfl⟩
  obtain ⟨xn, hxn⟩ : ∃ x, x = imm % 4294967296 := ⟨_, rfl⟩
  obtain ⟨pc, hpcv⟩ : ∃ x, x = h.pc := ⟨_, rfl⟩
  have era : h.reg (k1 : Int) = xa := by rw [hxa]; rfl
  have erb : h.reg (k2 : Int) = xb := by rw [hxb]; rfl
  rw [era, erb] at hq
  have ua : U32 xa := by rw [← era]; exact reg_u wf _
  have ub : U32 xb := by rw [← erb]; exact reg_u wf _
  have un : U32 xn := by rw [hxn]; exact mod_lo _
  have up : U32 pc := by rw [hpcv]; exact wf.pc
  obtain ⟨c0, hc0⟩ : ∃ c, c = (⟨h, l, [], 0, 0⟩ : CoreD) := ⟨_, rfl⟩
  have e : doS ⟨op, kd, k1, k2, imm⟩ (⟨h, l, [], 0, 0⟩ : CoreD) = (atomR c0 op xa xb kd).setPc ((pc + 4) % 4294967296) := by
    rw [hc0]
    unfold doS
    dsimp only
    rw [era, erb, ← hxn, ← hpcv]
    rw [if_neg om, if_neg om, if_neg om, if_neg om, if_neg om, if_neg om, if_neg om, if_neg om, if_neg om, if_pos om, if_pos hq]
    unfold atomR; rw [if_pos hq]
  rw [e]
  clear e
  have HC0 := lI hc0
  have HA := lI ua
  have HB := lI ub
  have HN := lI un
  have HU := lI up
  have HPC : Hid (h.pc = pc) := lI hpcv.symm
  have HOf : Hid (∀ W, Calls Try.prog 50 #[.int .i64 imm] W fun e w' => e = .returned (.int .u32 xn) ∧ W = w') := lI (fun W => by rw [hxn]; exact of1_any imm W om)
  have HS1 := lI (fun W => sum4_any pc 4 W up ⟨by decide, by decide⟩)
  have HS2 := lI (fun W => sum4_any xa xn W ua un)
  have HWC : Hid c0.Wf := lI (by rw [hc0]; exact ⟨wf, hb, by simp, (⟨by decide, by decide⟩ : U32 0), (⟨by decide, by decide⟩ : U32 0), zM, by simp⟩)
  rw [← hc0] at hq
  clear era erb ua ub un up hxn hc0 hpcv
  obtain ⟨ao, cap, hve, _⟩ := hv.open
  have HV := lI hv
  have wfc : ((⟨h, l, [], 0, 0⟩ : CoreD)).Wf := ⟨wf, hb, by simp, (⟨by decide, by decide⟩ : U32 0), (⟨by decide, by decide⟩ : U32 0), zM, by simp⟩
  obtain ⟨d0, hd0⟩ : ∃ d0, d0 = (⟨h, v, .slice none 0 0, 0, 0⟩ : DidD) := ⟨_, rfl⟩
  have d0_ok : d0.Ok := by rw [hd0]; exact ⟨wf.len, hv.one, rfl⟩
  have HBD := lI (fun W => build_did h wf.len v hv.one ao _ cap hve W)
  rw [← hd0] at HBD
  have hbox : At (w.alloc (.cells (hcells h) 67)) w.heap.size 0 (hlist h) := at_alloc w (hlist h) 67 (0, 0)
  have hsz : (Try.prog.info? 67).map (·.size) = some (hcells h).size := by rw [hcells_size wf]; kernel_rfl
  have HDO : Hid (∀ W, Ints .u8 W v l → DidOf W d0 c0) := lI (fun W hW => by rw [hd0, HC0.out]; exact ⟨rfl, hW, Sl.nil _ _, rfl, rfl⟩)
  have HD0E := lI hd0
  subst hve
  clear hv hd0
  go_enter Try.func34, Try.ntmps34
  go_upto_region 1 with (fail)
  show Code.wp _ _ _ _ ((w.alloc (.cells (hcells h) 67)).alloc (.cells (dcells did0) 88))
  have hb1 : At ((w.alloc (.cells (hcells h) 67)).alloc (.cells (dcells did0) 88)) w.heap.size 0 (hlist h) := hbox.below Fb.blw
  have hbz1 : Below w.heap.size w ((w.alloc (.cells (hcells h) 67)).alloc (.cells (dcells did0) 88)) := Fb.blw
  have hs1 : (((w.alloc (.cells (hcells h) 67)).alloc (.cells (dcells did0) 88))).heap.size = w.heap.size + 2 := by simp
  have hR1 := there_begin h (w := w) (tH := 67) (tD := 88)
  generalize ((w.alloc (.cells (hcells h) 67)).alloc (.cells (dcells did0) 88)) = w1 at *
  have HSZ1 := lI hs1
  clear hs1
  go_upto_region 2 with (first | (refine wpList_load_at rfl 67 _ rfl w.heap.size 0 rfl (hcells h) _ hb1 Try.underlying67 rfl hsz ?_) | (refine wpList_buildV rfl 88 _ rfl #[(0, .agg (hcells h)), (1, .slice ao l.length cap)] zD _ (HBD.out _) ?_) | (refine wpList_store_new rfl 88 _ _ rfl w1 _ (dcells d0) rfl rfl rfl (did_size d0_ok) zL (dlist_one d0_ok) ?_))
  have hs1 := HSZ1.out
  have hD := DBox.begin3 (w := w1) (tD := 88) (d := d0) hR1 om
  have hb2 := hb1.below (Below.alloc br (Nat.le_refl _) (.cells (dcells d0) 88))
  have hbz2 : Below w.heap.size w (w1.alloc (.cells (dcells d0) 88)) := hbz1.trans (Below.alloc br om _)
  have hs2 : (w1.alloc (.cells (dcells d0) 88)).heap.size = w.heap.size + 3 := by simp; omega
  rw [hs1] at hD
  have e12 : w1.heap.size = w.heap.size + 2 := hs1
  rw [e12]
  generalize w1.alloc (.cells (dcells d0) 88) = w2 at *
  have hpc := hb2.get (hlist_pc wf)
  simp only [Nat.zero_add] at hpc
  clear hb1 hbz1 hs1 hR1 e12
  have HL := lI (fun W hW => load3_any (.slice ao l.length cap) l 13 h.pc W hW wf.pc hb.getD)
  rw [hok] at HL
  clear hok
  have HDc := lI (fun W => decode2_any (mLoad l 13 h.pc) W (mLoad_u13 l h.pc wf.pc hb.getD))
  rw [hdec] at HDc
  simp only [Option.getD_some, Option.isSome_some, icells] at HDc
  go_upto_region 5 with (go_at_call 40; refine (HL.out _ (HV.out.below hbz2)).mono ?_; rintro e w3 ⟨rfl, rfl⟩)
  go_wp2_with fail
  refine (HDc.out _).mono ?_
  rintro e w3 ⟨rfl, hb3⟩
  obtain ⟨w4, hw4⟩ : ∃ w4, w4 = w3.alloc (.cells #[.int .i64 op, .int .i64 kd, .int .i64 k1, .int .i64 k2, .int .i32 imm] 110) := ⟨_, rfl⟩
  have hs3 := hb3.size
  have hB4 : Below w2.heap.size w2 w4 := by rw [hw4]; exact hb3.trans (Below.alloc br hs3 _)
  have hs4 : w4.heap.size = w3.heap.size + 1 := by rw [hw4]; simp
  have q0 : w4.cell? ⟨w3.heap.size, 0, none⟩ = some (.int .i64 op) := by rw [hw4]; go_cell
  have q1 : w4.cell? ⟨w3.heap.size, 1, none⟩ = some (.int .i64 kd) := by rw [hw4]; go_cell
  have q2 : w4.cell? ⟨w3.heap.size, 2, none⟩ = some (.int .i64 k1) := by rw [hw4]; go_cell
  have q3 : w4.cell? ⟨w3.heap.size, 3, none⟩ = some (.int .i64 k2) := by rw [hw4]; go_cell
  have q4 : w4.cell? ⟨w3.heap.size, 4, none⟩ = some (.int .i32 imm) := by rw [hw4]; go_cell
  have hh4 : At w4 w.heap.size 0 (hlist h) := hb2.below hB4
  have HD5 := lI ((hD.below om om hB4))
  have hra := hh4.get (hlist_reg wf k1 h1)
  have hrb := hh4.get (hlist_reg wf k2 h2)
  have hpc4 := hh4.get (hlist_pc wf)
  simp only [Nat.zero_add] at hra hrb hpc4
  rw [← hxa] at hra
  rw [← hxb] at hrb
  have hbz4 : Below w.heap.size w w4 := hbz2.trans (hB4.mono om)
  have HW4 := lI hw4
  clear hw4 hb2 hB4 hb3 hD hpc hbz2 hxa hxb
  have j1 : (k1 : Int) < 32 := om
  have j2 : (k2 : Int) < 32 := om
  go_upto_region 6 with (fail)
  rw [← HW4.out]
  rw [HPC.out] at hpc4
  go_upto_region 13 with (first | (go_at_call 50; refine (HOf.out _).mono ?_; rintro e w' ⟨rfl, rfl⟩) | (go_at_call 51; refine (HS1.out _).mono ?_; rintro e w' ⟨rfl, na, rfl⟩) | (go_at_call 51; refine (HS2.out _).mono ?_; rintro e w' ⟨rfl, nb, rfl⟩))
  have hpc5 : (w4.drewN (na + nb)).cell? ⟨w.heap.size, 32, none⟩ = some (.int .u32 pc) := hpc4
  have hh5 : At (w4.drewN (na + nb)) w.heap.size 0 (hlist h) := hh4
  have HD6 := lI (HD5.out.drewN (na + nb))
  have hbz : Below w.heap.size w (w4.drewN (na + nb)) := below_drewN hbz4 _
  have hsz5 : (w4.drewN (na + nb)).heap.size = w3.heap.size + 1 := hs4
  have p0 : (w4.drewN (na + nb)).cell? ⟨w3.heap.size, 0, none⟩ = some (.int .i64 op) := q0
  have p1 : (w4.drewN (na + nb)).cell? ⟨w3.heap.size, 1, none⟩ = some (.int .i64 kd) := q1
  have p2 : (w4.drewN (na + nb)).cell? ⟨w3.heap.size, 2, none⟩ = some (.int .i64 k1) := q2
  have p3 : (w4.drewN (na + nb)).cell? ⟨w3.heap.size, 3, none⟩ = some (.int .i64 k2) := q3
  have p4 : (w4.drewN (na + nb)).cell? ⟨w3.heap.size, 4, none⟩ = some (.int .i32 imm) := q4
  clear q0 q1 q2 q3 q4 hpc4 hh4 HD5 hra hrb hbz4 hs4
  generalize w4.drewN (na + nb) = w5 at *
  go_upto_region 42 with (fail)
  go_wp2_with (first | (refine wpList_load_at rfl 88 _ rfl (w.heap.size + 2) 0 rfl (dcells d0) _ HD6.out.at_ Try.underlying88 rfl (did_size d0_ok) ?_))
  refine (atom4_any d0 c0 _ (HDO.out _ (HV.out.below hbz)) HWC.out (by rw [HC0.out]; exact hl) op kd k1 k2 imm ⟨o0, o1⟩ hk xa xb HA.out HB.out).mono ?_
  rw [show (atomS c0 op xa xb).2.2 = true from hq]
  rintro e w6 ⟨d1, rfl, hdo, hfr', hvo', hb6⟩
  have d1_ok : d1.Ok := hdo.ok (atomR_wf HWC.out op xa xb kd HA.out HB.out)
  obtain ⟨c1m, hc1m⟩ : ∃ x, x = (atomR c0 op xa xb kd).m := ⟨_, rfl⟩
  have hm6 : Ints .u8 w6 d1.vm c1m := by rw [hc1m]; exact hdo.m
  have HFR : Hid (d1.vm = .slice ao l.length cap ∨ ∀ q, d1.vm.ownBlock = some q → w.heap.size + 3 ≤ q) := lI (hfr'.imp (fun e => by rw [e, HD0E.out]) (fun hf q e => by have := hf q e; omega))
  have HVO : Hid (d1.vo = .slice none 0 0) := lI (by rw [hvo', HD0E.out])
  have HDD : Hid (∀ W, Ints .u8 W d1.vm c1m → DidOf W d1 (atomR c0 op xa xb kd)) := lI (fun W hm => ⟨hdo.h, by rw [hc1m] at hm; exact hm, by rw [hvo', HD0E.out, atomR_out, HC0.out]; exact Sl.nil _ _, hdo.fr, hdo.many⟩)
  clear hdo hfr' hvo' hc1m
  have hs6 := hb6.size
  have HB6 := HD6.out.below om om hb6
  have htB := HB6.thereB d0_ok d1_ok
  have HD7 := lI (HB6.put d0_ok d1_ok)
  have hb60 := hbz.trans (hb6.mono om)
  have hbe := below_setCells (b := w.heap.size + 2) om (dcells d1).toList 0 _ hb60
  have hm7 : Ints .u8 (w6.setCells (w.heap.size + 2) 0 (dcells d1).toList) d1.vm c1m := by
    rcases HFR.out with e | hf
    · rw [e]; exact ints_old HV.out (by rw [← e]; exact hm6) hb60 hbe
    · exact sl_setCells (fresh_ne hf om) _ _ _ hm6
  clear hb6 HB6 p0 p1 p2 p3 p4 hh5 hpc5 hm6 hb60
  go_upto_region 54 with (first | (refine wpList_store_mid rfl 88 _ _ rfl (w.heap.size + 2) 0 (dcells d1) rfl rfl htB (did_size d1_ok) (dlist_all d1_ok) ?_))
  generalize w6.setCells (w.heap.size + 2) 0 (dcells d1).toList = w7 at *
  have c32 := HD7.out.get (dlist_h (hlist_pc' d1_ok.len))
  have f32 := HD7.out.frz 32
  obtain ⟨d9, hd9⟩ : ∃ d9, d9 = ({ d1 with h := { d1.h with pc := ((pc + 4) % 4294967296) } } : DidD) := ⟨_, rfl⟩
  have d9_ok : d9.Ok := by rw [hd9]; exact ⟨d1_ok.len, d1_ok.m1, d1_ok.o1⟩
  have HD9 : Hid (DBox (w.heap.size + 2) (w.heap.size + 1) 88 (w7.setCell ⟨w.heap.size + 2, 32, none⟩ (.int .u32 ((pc + 4) % 4294967296))) d9) := lI (by
    rw [hd9]
    exact HD7.out.set 32 (.int .u32 ((pc + 4) % 4294967296)) zW (dlist_setH (hlist_setPc d1_ok.len ((pc + 4) % 4294967296)) zU))
  have hbf := hbe.setCell (p := ⟨w.heap.size + 2, 32, none⟩) zK (.int .u32 ((pc + 4) % 4294967296))
  have HD9E := lI hd9
  clear hd9
  go_upto_region 55 with (fail)
  have ht := HD9.out.there
  rw [← dcells_size d9_ok] at ht
  have hld := load_setCells (P := Try.prog) ht Try.underlying88 rfl (did_size d9_ok)
  go_wp2_with (first | (refine wpList_load_at rfl 88 _ rfl (w.heap.size + 2) 0 rfl (dcells d9) _ HD9.out.at_ Try.underlying88 rfl (did_size d9_ok) ?_) | (refine wpList_store_mid rfl 88 _ _ rfl (w.heap.size + 1) 0 (dcells d9) rfl rfl ht (did_size d9_ok) (dlist_all d9_ok) ?_))
  have hW := below_setCells (b := w.heap.size + 1) om (dcells d9).toList 0 _ hbf
  refine bodyPost_ret (results_c1 zE _ zE hld) rfl ⟨d9, rfl, ?_, ?_, ?_, hW⟩
  · have hmF : Ints .u8 ((w7.setCell ⟨w.heap.size + 2, 32, none⟩ (.int .u32 ((pc + 4) % 4294967296))).setCells (w.heap.size + 1) 0 (dcells d9).toList) d1.vm c1m := by
      rcases HFR.out with e | hf
      · rw [e]; exact ints_old HV.out (by rw [← e]; exact hm7) hbe hW
      · exact sl_setCells (fresh_ne hf om) _ _ _ (hm7.set_other (fun b off n c e => by have := hf b zX; show w.heap.size + 2 ≠ b; omega) _)
    have hX := (HDD.out _ hmF).setPc (((pc + 4) % 4294967296))
    rw [HD9E.out] at hX ⊢
    exact hX
  · rcases HFR.out with e | hf
    · exact .inl (by rw [HD9E.out]; exact e)
    · exact .inr yH
  · rw [HD9E.out]; intro q e; rw [show (({ d1 with h := { d1.h with pc := ((pc + 4) % 4294967296) } }) : DidD).vo = .slice none 0 0 from HVO.out] at e; cases e
end Go.Proofs.Ytlfnddmncbkjaac.W
