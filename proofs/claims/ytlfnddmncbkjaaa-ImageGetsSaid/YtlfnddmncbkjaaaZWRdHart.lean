/- The reader of package image: a hart. -/
import Derived.Test.YtlfnddmncbkjaaaZWTake
import Derived.Test.YtlfnddmncbkjaaaZMB
namespace Go.Proofs.Ytlfnddmncbkjaaa.W
set_option linter.unusedVariables false
set_option linter.unusedSimpArgs false
open Go.RowKit Fb
theorem num_s (rp : Nat) (s : Rd) (w : World) (h : RdAt rp w s) (hb : Bytes s.1) :
    Calls Try.prog 63 #[.pointer (some ⟨rp, 0, none⟩)] w fun e w' => e = .returned (.int .u32 (numR s).1) ∧ RdAt rp w' (numR s).2 ∧ Chg (fun p => p.block = rp) w w' := num_rd rp s.1 s.2 w h hb
set_option maxRecDepth 100000 in
set_option maxHeartbeats 1600000 in
theorem hart_rd (rp : Nat) (s : Rd) (w : World) (h : RdAt rp w s) (hb : Bytes s.1) :
    Calls Try.prog 64 #[.pointer (some ⟨rp, 0, none⟩)] w fun e w' => e = .returned (.agg (hcells (hartR s).1)) ∧ RdAt rp w' (hartR s).2 ∧ Chg (fun p => p.block = rp) w w' := by
  have hrl := h.lt
  obtain ⟨w1, hw1⟩ : ∃ w1, w1 = (w.alloc (.cells (hcells hart0) 86)).alloc (.cells (hcells hart0) 86) := ⟨_, rfl⟩
  have hb1 : Below w.heap.size w w1 := by rw [hw1]; exact (by repeat (first | with_reducible exact Below.refl _ _ | with_reducible refine below_drewN ?_ _ | ((with_reducible refine Below.setCell ?_ ?hq _); case hq => (first | (simp; done) | (simp; omega))) | ((with_reducible refine Below.alloc ?_ ?hq _); case hq => (first | (simp; done) | (simp; omega)))))
  have HX1 := Lib.hid (HB.begin w 86)
  have HR1 := Lib.hid (h.below hb1)
  have HG1 := Lib.hid (Chg.of_below hb1 (fun p => p.block = rp))
  rw [← hw1] at HX1
  have HW1 := Lib.hid hw1
  have HB0 := Lib.hid hb
  clear hw1 hb1 h hb
  go_enter Try.func64, Try.ntmps64
  go_wp2_with fail
  show Code.wp _ _ _ _ ((w.alloc (.cells (hcells hart0) 86)).alloc (.cells (hcells hart0) 86))
  rw [← HW1.out]
  go_loopw [6] (fun i wr => ∃ k : Nat, i = .int .i64 k ∧ k ≤ 32 ∧ Hid (RdAt rp wr (numsR k s).2 ∧ HB (w.heap.size + 1) w.heap.size wr (partH (numsR k s).1 k) ∧ Chg (fun p => p.block = rp) w wr)) (fun i _ => 32 - (intOf i).toNat)
  case atStart => exact ⟨0, rfl, by omega, Lib.hid ⟨HR1.out, HX1.out, HG1.out⟩⟩
  case round =>
    obtain ⟨k, rfl, hk, HR⟩ := hrel
    by_cases hlt : k < 32
    · have HS : Hid (numsR (k + 1) s = ((numsR k s).1 ++ [(numR (numsR k s).2).1], (numR (numsR k s).2).2)) := Lib.hid rfl
      have HN := Lib.hid (num_s rp (numsR k s).2 wr HR.out.1 (numsR_b HB0.out k))
      have HL : Hid ((numsR k s).1.length = k) := Lib.hid (numsR_len s k)
      generalize (numR (numsR k s).2).1 = x at *
      have i0 : (0 : Int) ≤ (k : Int) := by omega
      have i1 : (k : Int) < 32 := by omega
      go_wp2_with fail
      refine HN.out.mono ?_
      rintro e w2 ⟨rfl, hr, hg⟩
      have hx2 := HR.out.2.1.chg hg (by omega) (by omega)
      have ck := hx2.get (hlist_reg' (h := partH (numsR k s).1 k) (by simp [partH, HL.out]; omega) k hlt)
      have fk := hx2.frz k
      have HR2 := Lib.hid hr
      have HX2 := Lib.hid hx2
      have HG2 := Lib.hid (HR.out.2.2.trans hg (fun _ _ e => e))
      clear hr hx2 hg
      go_wp2_with fail
      go_roundw
      case rel => exact ⟨k + 1, by go_num, by omega, Lib.hid ⟨by rw [HS.out]; exact HR2.out.other (p := ⟨w.heap.size + 1, k, none⟩) (by show rp < w.heap.size + 1; omega) _, by
          rw [HS.out]
          exact HX2.out.set k _ (by omega) (partH_set HL.out hlt _) (by simp [partH, HL.out]; omega), chg_new HG2.out (by show w.heap.size ≤ w.heap.size + 1; omega) _⟩⟩
      case measure => simp [intOf]; omega
    · obtain rfl : k = 32 := by omega
      obtain ⟨a, ha⟩ : ∃ a, a = numsR 32 s := ⟨_, rfl⟩
      have hla : a.1.length = 32 := by rw [ha]; exact numsR_len s 32
      have HH : Hid (hartR s = hartT a) := Lib.hid (by rw [ha]; rfl)
      have HBY0 : Hid (Bytes a.2.1) := Lib.hid (by rw [ha]; exact numsR_b HB0.out 32)
      rw [← ha] at HR
      have HRD0 := Lib.hid HR.out.1
      have HX := Lib.hid HR.out.2.1
      have HG0 := Lib.hid HR.out.2.2
      have hh0 : Hid (partH a.1 32 = ⟨a.1, 0, false, 0, 0, 0⟩) := Lib.hid (by simp [partH])
      rw [hh0.out] at HX
      have HLA := Lib.hid hla
      clear ha HR hla hh0
      have HN1 := Lib.hid (fun W hW => num_s rp a.2 W hW (HBY0.out))
      have HU1 := Lib.hid (numR_u HBY0.out)
      obtain ⟨x1, hx1⟩ : ∃ x, x = (numR a.2).1 := ⟨_, rfl⟩
      obtain ⟨s1, hs1⟩ : ∃ x, x = (numR a.2).2 := ⟨_, rfl⟩
      have HBY1 : Hid (Bytes s1.1) := Lib.hid (by rw [hs1]; exact numR_b HBY0.out)
      rw [← hx1, ← hs1] at HN1
      rw [← hx1] at HU1
      have HXE1 := Lib.hid hx1
      have HSE1 := Lib.hid hs1
      clear hx1 hs1
      go_wp2_with fail
      refine (HN1.out _ HRD0.out).mono ?_
      rintro e w2 ⟨rfl, hr1, hg1⟩
      have hy1 := HX.out.chg hg1 (by omega) (by omega)
      have HG1' := Lib.hid (HG0.out.trans hg1 (fun _ _ e => e))
      have c32 := hy1.get (hlist_pc' HLA.out)
      have f32 := hy1.frz 32
      have HX1' := Lib.hid (hy1.set 32 (.int .u32 x1) (by omega) (hlist_setPc HLA.out x1) HLA.out)
      have HRD1 := Lib.hid (hr1.other (p := ⟨w.heap.size + 1, 32, none⟩) (by show rp < w.heap.size + 1; omega) (.int .u32 x1))
      have HG1q := Lib.hid (chg_new HG1'.out (p := ⟨w.heap.size + 1, 32, none⟩) (by show w.heap.size ≤ w.heap.size + 1; omega) (.int .u32 x1))
      clear hy1 hg1 hr1
      go_upto_region 8 with (fail)
      clear c32 f32
      generalize w2.setCell ⟨w.heap.size + 1, 32, none⟩ (.int .u32 x1) = w3 at *
      have HN2 := Lib.hid (fun W hW => num_s rp s1 W hW (HBY1.out))
      have HU2 := Lib.hid (numR_u HBY1.out)
      obtain ⟨x2, hx2⟩ : ∃ x, x = (numR s1).1 := ⟨_, rfl⟩
      obtain ⟨s2, hs2⟩ : ∃ x, x = (numR s1).2 := ⟨_, rfl⟩
      have HBY2 : Hid (Bytes s2.1) := Lib.hid (by rw [hs2]; exact numR_b HBY1.out)
      rw [← hx2, ← hs2] at HN2
      rw [← hx2] at HU2
      have HXE2 := Lib.hid hx2
      have HSE2 := Lib.hid hs2
      clear hx2 hs2
      go_wp2_with fail
      refine (HN2.out _ HRD1.out).mono ?_
      rintro e w4 ⟨rfl, hr2, hg2⟩
      have hy2 := HX1'.out.chg hg2 (by omega) (by omega)
      have HG2 := Lib.hid (HG1q.out.trans hg2 (fun _ _ e => e))
      have cb := hr2.bad
      have fb := hr2.frz 1
      have HRD2 := Lib.hid (hr2.setBad (s2.2 || decide (1 < x2)))
      have HX2 := Lib.hid (hy2.move (w' := w4.setCell ⟨rp, 1, none⟩ (.bool (s2.2 || decide (1 < x2)))) (Below.heap_setCell _ _ _ _ (by show w.heap.size + 1 ≠ rp; omega)) (Below.heap_setCell _ _ _ _ (by show w.heap.size ≠ rp; omega)))
      have HG2q := Lib.hid (chg_set HG2.out 1 (.bool (s2.2 || decide (1 < x2))))
      clear hy2 hg2 hr2
      obtain ⟨bd, hbd⟩ : ∃ b, b = s2.2 := ⟨_, rfl⟩
      rw [← hbd] at cb HRD2 HX2 HG2q
      obtain ⟨s2q, hs2q⟩ : ∃ x, x = (s2.1, bd || decide (1 < x2)) := ⟨_, rfl⟩
      have HS2 : Hid (s2q = (s2.1, s2.2 || decide (1 < x2))) := Lib.hid (by rw [hs2q, hbd])
      have HBYq : Hid (Bytes s2q.1) := Lib.hid (by rw [hs2q]; exact HBY2.out)
      rw [← hs2q] at HRD2
      obtain ⟨hu0, hu1⟩ := HU2.out
      clear hbd hs2q
      go_upto_region 9 with (fail)
      have hcs : ∃ b2, (bd || decide (1 < x2)) = b2 ∧ ((bd = true ∧ b2 = true) ∨ (bd = false ∧ 1 < x2 ∧ b2 = true) ∨ (bd = false ∧ ¬ 1 < x2 ∧ b2 = false)) := by
        refine ⟨_, rfl, ?_⟩
        cases bd with
        | true => exact .inl ⟨rfl, rfl⟩
        | false => by_cases h : 1 < x2
                   · exact .inr (.inl ⟨rfl, h, by simp [h]⟩)
                   · exact .inr (.inr ⟨rfl, h, by simp [h]⟩)
      obtain ⟨b2, hb2, hcs⟩ := hcs
      rw [hb2] at HRD2 HX2 HG2q
      clear hb2
      rcases hcs with ⟨rfl, rfl⟩ | ⟨rfl, hx, rfl⟩ | ⟨rfl, hx, rfl⟩
      all_goals
        go_upto_region 10 with (fail)
        clear cb fb
        generalize w4.setCell ⟨rp, 1, none⟩ (.bool _) = w5 at *
        have c33 := HX2.out.get (hlist_held' HLA.out)
        have f33 := HX2.out.frz 33
        have HX3' := Lib.hid (HX2.out.set 33 (.bool (x2 == 1)) (by omega) (hlist_setHeld HLA.out _) HLA.out)
        have HRD3' := Lib.hid (HRD2.out.other (p := ⟨w.heap.size + 1, 33, none⟩) (by show rp < w.heap.size + 1; omega) (.bool (x2 == 1)))
        have HG3' := Lib.hid (chg_new HG2q.out (p := ⟨w.heap.size + 1, 33, none⟩) (by show w.heap.size ≤ w.heap.size + 1; omega) (.bool (x2 == 1)))
        go_upto_region 11 with (fail)
        clear c33 f33
        generalize w5.setCell ⟨w.heap.size + 1, 33, none⟩ (.bool (x2 == 1)) = w6 at *
        have HN3 := Lib.hid (fun W hW => num_s rp s2q W hW (HBYq.out))
        have HU3 := Lib.hid (numR_u (s := s2q) (HBYq.out))
        obtain ⟨x3, hx3⟩ : ∃ x, x = (numR s2q).1 := ⟨_, rfl⟩
        obtain ⟨s3, hs3⟩ : ∃ x, x = (numR s2q).2 := ⟨_, rfl⟩
        have HBY3 : Hid (Bytes s3.1) := Lib.hid (by rw [hs3]; exact numR_b (s := s2q) (HBYq.out))
        rw [← hx3, ← hs3] at HN3
        rw [← hx3] at HU3
        have HXE3 := Lib.hid hx3
        have HSE3 := Lib.hid hs3
        obtain ⟨u3, v3⟩ := HU3.out
        clear hx3 hs3
        go_wp2_with fail
        refine (HN3.out _ HRD3'.out).mono ?_
        rintro e w7 ⟨rfl, hr3, hg3⟩
        have hy3 := HX3'.out.chg hg3 (by omega) (by omega)
        have HGa3 := Lib.hid (HG3'.out.trans hg3 (fun _ _ e => e))
        have c34 := hy3.get (hlist_heldAt' HLA.out)
        have f34 := hy3.frz 34
        have HX3 := Lib.hid (hy3.set 34 (.int .u32 x3) (by omega) (hlist_setHeldAt HLA.out _) HLA.out)
        have HRD3 := Lib.hid (hr3.other (p := ⟨w.heap.size + 1, 34, none⟩) (by show rp < w.heap.size + 1; omega) (.int .u32 x3))
        have HG3 := Lib.hid (chg_new HGa3.out (p := ⟨w.heap.size + 1, 34, none⟩) (by show w.heap.size ≤ w.heap.size + 1; omega) (.int .u32 x3))
        clear hy3 hg3 hr3
        go_upto_region 12 with (fail)
        clear c34 f34
        generalize w7.setCell ⟨w.heap.size + 1, 34, none⟩ (.int .u32 x3) = w8 at *
        have HN4 := Lib.hid (fun W hW => num_s rp s3 W hW (HBY3.out))
        have HU4 := Lib.hid (numR_u (s := s3) (HBY3.out))
        obtain ⟨x4, hx4⟩ : ∃ x, x = (numR s3).1 := ⟨_, rfl⟩
        obtain ⟨s4, hs4⟩ : ∃ x, x = (numR s3).2 := ⟨_, rfl⟩
        have HBY4 : Hid (Bytes s4.1) := Lib.hid (by rw [hs4]; exact numR_b (s := s3) (HBY3.out))
        rw [← hx4, ← hs4] at HN4
        rw [← hx4] at HU4
        have HXE4 := Lib.hid hx4
        have HSE4 := Lib.hid hs4
        obtain ⟨u4, v4⟩ := HU4.out
        clear hx4 hs4
        go_wp2_with fail
        refine (HN4.out _ HRD3.out).mono ?_
        rintro e w9 ⟨rfl, hr4, hg4⟩
        have hy4 := HX3.out.chg hg4 (by omega) (by omega)
        have HGa4 := Lib.hid (HG3.out.trans hg4 (fun _ _ e => e))
        have c35 := hy4.get (hlist_state' HLA.out)
        have f35 := hy4.frz 35
        have HX4 := Lib.hid (hy4.set 35 (.int .i64 x4) (by omega) (hlist_setState HLA.out _) HLA.out)
        have HRD4 := Lib.hid (hr4.other (p := ⟨w.heap.size + 1, 35, none⟩) (by show rp < w.heap.size + 1; omega) (.int .i64 x4))
        have HG4 := Lib.hid (chg_new HGa4.out (p := ⟨w.heap.size + 1, 35, none⟩) (by show w.heap.size ≤ w.heap.size + 1; omega) (.int .i64 x4))
        clear hy4 hg4 hr4
        go_upto_region 13 with (fail)
        clear c35 f35
        generalize w9.setCell ⟨w.heap.size + 1, 35, none⟩ (.int .i64 x4) = w10 at *
        have HN5 := Lib.hid (fun W hW => num_s rp s4 W hW (HBY4.out))
        have HU5 := Lib.hid (numR_u (s := s4) (HBY4.out))
        obtain ⟨x5, hx5⟩ : ∃ x, x = (numR s4).1 := ⟨_, rfl⟩
        obtain ⟨s5, hs5⟩ : ∃ x, x = (numR s4).2 := ⟨_, rfl⟩
        have HBY5 : Hid (Bytes s5.1) := Lib.hid (by rw [hs5]; exact numR_b (s := s4) (HBY4.out))
        rw [← hx5, ← hs5] at HN5
        rw [← hx5] at HU5
        have HXE5 := Lib.hid hx5
        have HSE5 := Lib.hid hs5
        obtain ⟨u5, v5⟩ := HU5.out
        clear hx5 hs5
        go_wp2_with fail
        refine (HN5.out _ HRD4.out).mono ?_
        rintro e w11 ⟨rfl, hr5, hg5⟩
        have hy5 := HX4.out.chg hg5 (by omega) (by omega)
        have HGa5 := Lib.hid (HG4.out.trans hg5 (fun _ _ e => e))
        have c36 := hy5.get (hlist_cause' HLA.out)
        have f36 := hy5.frz 36
        have HX5 := Lib.hid (hy5.set 36 (.int .i64 x5) (by omega) (hlist_setCause HLA.out _) HLA.out)
        have HRD5 := Lib.hid (hr5.other (p := ⟨w.heap.size + 1, 36, none⟩) (by show rp < w.heap.size + 1; omega) (.int .i64 x5))
        have HG5 := Lib.hid (chg_new HGa5.out (p := ⟨w.heap.size + 1, 36, none⟩) (by show w.heap.size ≤ w.heap.size + 1; omega) (.int .i64 x5))
        clear hy5 hg5 hr5
        go_upto_region 14 with (fail)
        clear c36 f36
        generalize w11.setCell ⟨w.heap.size + 1, 36, none⟩ (.int .i64 x5) = w12 at *
        obtain ⟨hf, hhf⟩ : ∃ hf, hf = (⟨a.1, x1, x2 == 1, x3, x4, x5⟩ : Hart) := ⟨_, rfl⟩
        have HXF : Hid (HB (w.heap.size + 1) w.heap.size w12 hf) := Lib.hid (by rw [hhf]; exact HX5.out)
        have hlf : hf.regs.length = 32 := by rw [hhf]; exact HLA.out
        have hszf : (hcells hf).size = 37 := by simp [hcells, hlist_len hlf]
        have hsz : (Try.prog.info? 86).map (·.size) = some (hcells hf).size := by rw [hszf]; kernel_rfl
        have HHF : Hid (hartR s = (hf, s5)) := Lib.hid (by
          rw [HH.out, hhf]
          unfold hartT
          dsimp only
          rw [← HXE1.out, ← HSE1.out, ← HXE2.out, ← HSE2.out, ← HS2.out, ← HXE3.out, ← HSE3.out, ← HXE4.out, ← HSE4.out, ← HXE5.out, ← HSE5.out])
        have ht := HXF.out.there
        rw [← hszf] at ht
        have hld := load_setCells (P := Try.prog) ht Try.underlying86 rfl hsz
        have hone : (hcells hf).all (·.oneCell') = true := Array.all_eq_true_iff_forall_mem.2 (fun v hv => hlist_one hf v (by simpa using hv))
        clear hhf
        go_wp2_with (first | (refine wpList_load_at rfl 86 _ rfl (w.heap.size + 1) 0 rfl (hcells hf) _ HXF.out.at_ Try.underlying86 rfl hsz ?_) | (refine wpList_store_mid rfl 86 _ _ rfl w.heap.size 0 (hcells hf) rfl rfl ht hsz hone ?_))
        refine bodyPost_ret (results_c1 (by rfl) _ (by rfl) hld) rfl ?_
        rw [HHF.out]
        exact ⟨rfl, HRD5.out.others (by omega) _ _, chg_news (by omega) _ _ HG5.out⟩
end Go.Proofs.Ytlfnddmncbkjaaa.W
