/- ferrybridgeref13.Get, walked. -/
import Derived.StillTailTactics
import Derived.Test.YtlfnddmncbkjaaaZWAt13
import Derived.Test.YtlfnddmncbkjaaaZWBytes13
import Derived.Test.YtlfnddmncbkjaaaZWWrong
import Derived.Test.YtlfnddmncbkjaaaZMA
import Derived.Test.YtlfnddmncbkjaaaZMB
namespace Go.Proofs.Ytlfnddmncbkjaaa.W
set_option linter.unusedVariables false
set_option linter.unusedSimpArgs false
open Go.RowKit Fb
set_option maxRecDepth 100000 in
set_option maxHeartbeats 1000000 in
theorem get13_any (v : Value) (b : List Int) (w : World) (hv : Ints .u8 w v b) (hb : Bytes b) (hl : b.length ≤ 140737488351232) :
    Calls Try.prog 28 #[v] w fun e w' => (∃ vm vh, e = .returned (.tuple #[.agg #[vm, vh], .int .i64 (getS b).2]) ∧ MachAt w' vm vh (getS b).1) ∧ Below w.heap.size w w' := by
  obtain ⟨G, hG⟩ : ∃ G, G = getS b := ⟨_, rfl⟩
  rw [← hG]
  obtain ⟨ao, cap, rfl, hc1, hc2, -, -⟩ := hv.open
  have HV := Lib.hid hv
  have HBY := Lib.hid hb
  obtain ⟨w0, hw0⟩ : ∃ w0, w0 = (w.alloc (.cells #[.slice none 0 0, .slice none 0 0] 25)).alloc (.cells #[.slice none 0 0, .slice none 0 0] 25) := ⟨_, rfl⟩
  have hb0 : Below w.heap.size w w0 := by rw [hw0]; exact (by repeat (first | with_reducible exact Below.refl _ _ | with_reducible refine below_drewN ?_ _ | ((with_reducible refine Below.setCell ?_ ?hq _); case hq => (first | (simp; done) | (simp; omega))) | ((with_reducible refine Below.alloc ?_ ?hq _); case hq => (first | (simp; done) | (simp; omega)))))
  have hs0 : w0.heap.size = w.heap.size + 2 := by rw [hw0]; simp
  have c0 : (w0).cell? ⟨w.heap.size, 0, none⟩ = some (.slice none 0 0) := by rw [hw0]; go_cell
  have c1 : (w0).cell? ⟨w.heap.size, 1, none⟩ = some (.slice none 0 0) := by rw [hw0]; go_cell
  have d0 : (w0).cell? ⟨w.heap.size + 1, 0, none⟩ = some (.slice none 0 0) := by rw [hw0]; go_cell
  have d1 : (w0).cell? ⟨w.heap.size + 1, 1, none⟩ = some (.slice none 0 0) := by rw [hw0]; go_cell
  have hfz : ∀ o, w0.frozen? ⟨w.heap.size, o, none⟩ = false := fun o => by
    have : w0.heap[w.heap.size]? = some (.cells #[.slice none 0 0, .slice none 0 0] 25 (0, 0)) := by rw [hw0, heap_alloc_old _ _ (by simp)]; exact heap_alloc_new _ _
    unfold World.frozen?; rw [this]; simp
  have cf0 := hfz 0
  have cf1 := hfz 1
  have HW0 := Lib.hid hw0
  have HB0 := Lib.hid hb0
  have HAY : Hid (∀ (k : Nat) (K : Int), K = k → ∀ W, Ints .u8 W (.slice ao b.length cap) b → k + 4 ≤ b.length → Calls Try.prog 65 #[.slice ao b.length cap, .int .i64 K] W fun e w' => e = .returned (.int .i64 (leW (b.drop k))) ∧ w' = W) := Lib.hid (fun k K e W hW hk => by rw [e]; exact at13_yes (.slice ao b.length cap) b k W hW hb hk hl)
  have HAN : Hid (∀ (k : Nat) (K : Int), K = k → ∀ W, Ints .u8 W (.slice ao b.length cap) b → b.length < k + 4 → k ≤ 140737488351232 → Calls Try.prog 65 #[.slice ao b.length cap, .int .i64 K] W fun e w' => e = .returned (.int .i64 (-1)) ∧ w' = W) := Lib.hid (fun k K e W hW hk h2 => by rw [e]; exact at13_no (.slice ao b.length cap) b k W hW hk h2)
  have HERR : Hid (G = (⟨[], []⟩, 2) → ∀ W, Below w.heap.size w W → (∃ vm vh, Ending.returned (.tuple #[.agg #[.slice none 0 0, .slice none 0 0], .int .i64 2]) = Ending.returned (.tuple #[.agg #[vm, vh], .int .i64 G.2]) ∧ MachAt W vm vh G.1) ∧ Below w.heap.size w W) := Lib.hid (fun hg W hW => by
    rw [hg]
    exact ⟨⟨_, _, rfl, Sl.nil _ _, Sl.nil _ _⟩, hW⟩)
  have HUN : Hid (¬ fitB b → G = (⟨[], []⟩, 2)) := Lib.hid (fun h => hG.trans (getS_unfit h))
  have HGG := Lib.hid hG
  have HEND : Hid (Below w.heap.size w ((w0.setCell ⟨w.heap.size, 0, none⟩ (.slice none 0 0)).setCell ⟨w.heap.size, 1, none⟩ (.slice none 0 0))) := Lib.hid ((hb0.setCell (p := ⟨w.heap.size, 0, none⟩) (Nat.le_refl _) _).setCell (p := ⟨w.heap.size, 1, none⟩) (Nat.le_refl _) _)
  clear hv hb hw0 hG hb0
  unfold maxLen at hc2
  go_enter Try.func28, Try.ntmps28
  go_upto_region 2 with (fail)
  rw [← HW0.out]
  by_cases h1 : 4 ≤ b.length
  rotate_left
  · have hg := HUN.out (fun h => h1 h.1)
    go_wp2_with fail
    refine (HAN.out 0 0 rfl _ (HV.out.below HB0.out) (by omega) (by omega)).mono ?_
    rintro e w1 ⟨rfl, rfl⟩
    go_wp2_with fail
    refine bodyPost_ret (results_c1t (by rfl) _ (by rfl) (load_out2 c0 c1 Try.underlying25 rfl (by kernel_rfl))) rfl ?_
    exact HERR.out hg _ HEND.out
  go_wp2_with fail
  refine (HAY.out 0 0 rfl _ (HV.out.below HB0.out) (by omega)).mono ?_
  rintro e w1 ⟨rfl, rfl⟩
  rw [List.drop_zero]
  obtain ⟨M, hM⟩ := Int.eq_ofNat_of_zero_le (leW_u HBY.out).1
  have hMm : manyAt b = M := by unfold manyAt; rw [hM, Int.toNat_natCast]
  have HMu : Hid (M < 4294967296) := Lib.hid (by have := (leW_u HBY.out).2; omega)
  rw [hM]
  clear hM
  have hmI : (0 : Int) ≤ (M : Int) := by omega
  by_cases h2 : M ≤ 4096 ∧ 4 + M ≤ b.length
  rotate_left
  · have hg := HUN.out (fun h => h2 ⟨by have := h.2.1; omega, by have := h.2.2.1; omega⟩)
    by_cases h3 : (4096 : Int) < (M : Int)
    · go_wp2_with fail
      refine bodyPost_ret (results_c1t (by rfl) _ (by rfl) (load_out2 c0 c1 Try.underlying25 rfl (by kernel_rfl))) rfl ?_
      exact HERR.out hg _ HEND.out
    · have h4 : (b.length : Int) < 4 + (M : Int) := by omega
      go_wp2_with fail
      refine bodyPost_ret (results_c1t (by rfl) _ (by rfl) (load_out2 c0 c1 Try.underlying25 rfl (by kernel_rfl))) rfl ?_
      exact HERR.out hg _ HEND.out
  obtain ⟨h2a, h2b⟩ := h2
  have h3 : ¬ (4096 : Int) < (M : Int) := by omega
  have h4 : ¬ (b.length : Int) < 4 + (M : Int) := by omega
  obtain ⟨_, _, e, _, _, _, ho⟩ := HV.out.open
  obtain ⟨bb, off, e2, hbb, -⟩ := ho (by intro e; rw [e] at h1; simp at h1)
  cases e
  subst e2
  clear ho
  have hb1 : Below w1.heap.size w1 w1 := Below.refl _ _
  go_upto_region 6 with (fail)
  obtain ⟨a0, ha0⟩ : ∃ a0 : Option Addr, a0 = (if cap = 4 then some ⟨bb, off, none⟩ else some ⟨bb, off + 4, none⟩) := ⟨_, rfl⟩
  rw [← ha0]
  have HA0 := Lib.hid ha0
  clear ha0
  obtain ⟨v0, hv0⟩ : ∃ v0 : Value, v0 = .slice a0 M (cap - 4) := ⟨_, rfl⟩
  obtain ⟨w2, hw2⟩ : ∃ w2, w2 = w1.alloc (.cells #[.slice a0 M (cap - 4), .slice none 0 0] 25) := ⟨_, rfl⟩
  rw [← hw2]
  have hb2 : Below w1.heap.size w1 w2 := by rw [hw2]; exact (by repeat (first | with_reducible exact Below.refl _ _ | with_reducible refine below_drewN ?_ _ | ((with_reducible refine Below.setCell ?_ ?hq _); case hq => (first | (simp; done) | (simp; omega))) | ((with_reducible refine Below.alloc ?_ ?hq _); case hq => (first | (simp; done) | (simp; omega)))))
  have hs2 : w2.heap.size = w1.heap.size + 1 := by rw [hw2]; simp
  have lw0 : w.heap.size < w1.heap.size := by omega
  have lw1 : w.heap.size + 1 < w1.heap.size := by omega
  have p0 : w2.cell? ⟨w1.heap.size, 0, none⟩ = some v0 := by rw [hw2, hv0]; go_cell
  have p1 : w2.cell? ⟨w1.heap.size, 1, none⟩ = some (.slice none 0 0) := by rw [hw2]; go_cell
  have pf : ∀ o, w2.frozen? ⟨w1.heap.size, o, none⟩ = false := fun o => by rw [hw2]; unfold World.frozen?; rw [heap_alloc_new]; simp
  have HG0 : Hid (G13 (w.heap.size + 2) 86 v0 (.slice none 0 0) w1 w2 []) := Lib.hid (by rw [← hs0]; exact ⟨p0, p1, pf, World.ownsRow_nil _ _ _ _, hb2⟩)
  have HC : Hid (w1.cell? ⟨w.heap.size, 0, none⟩ = some (.slice none 0 0) ∧ w1.cell? ⟨w.heap.size, 1, none⟩ = some (.slice none 0 0) ∧ w1.cell? ⟨w.heap.size + 1, 0, none⟩ = some (.slice none 0 0) ∧ w1.cell? ⟨w.heap.size + 1, 1, none⟩ = some (.slice none 0 0) ∧ w1.frozen? ⟨w.heap.size, 0, none⟩ = false ∧ w1.frozen? ⟨w.heap.size, 1, none⟩ = false) := Lib.hid ⟨c0, c1, d0, d1, cf0, cf1⟩
  have HV0 := Lib.hid hv0
  have HW2 := Lib.hid hw2
  -- what is laid when nothing is read
  have HNO : Hid (∀ W, Below w1.heap.size w1 W → W.cell? ⟨w.heap.size, 0, none⟩ = some (.slice none 0 0) ∧ W.cell? ⟨w.heap.size, 1, none⟩ = some (.slice none 0 0) ∧ W.cell? ⟨w.heap.size + 1, 0, none⟩ = some (.slice none 0 0) ∧ W.cell? ⟨w.heap.size + 1, 1, none⟩ = some (.slice none 0 0) ∧ W.frozen? ⟨w.heap.size, 0, none⟩ = false ∧ W.frozen? ⟨w.heap.size, 1, none⟩ = false) := Lib.hid (fun W hW =>
    ⟨(hW.cell (p := ⟨w.heap.size, 0, none⟩) lw0).trans c0, (hW.cell (p := ⟨w.heap.size, 1, none⟩) lw0).trans c1, (hW.cell (p := ⟨w.heap.size + 1, 0, none⟩) lw1).trans d0, (hW.cell (p := ⟨w.heap.size + 1, 1, none⟩) lw1).trans d1, (hW.frozen (p := ⟨w.heap.size, 0, none⟩) lw0).trans cf0, (hW.frozen (p := ⟨w.heap.size, 1, none⟩) lw0).trans cf1⟩)
  have HEN : Hid (∀ W, Below w1.heap.size w1 W → Below w.heap.size w ((W.setCell ⟨w.heap.size, 0, none⟩ (.slice none 0 0)).setCell ⟨w.heap.size, 1, none⟩ (.slice none 0 0))) := Lib.hid (fun W hW => ((HB0.out.trans (hW.mono (by omega))).setCell (p := ⟨w.heap.size, 0, none⟩) (Nat.le_refl _) _).setCell (p := ⟨w.heap.size, 1, none⟩) (Nat.le_refl _) _)
  have HVW : Hid (∀ W, Below w1.heap.size w1 W → Ints .u8 W (.slice (some ⟨bb, off, none⟩) b.length cap) b) := Lib.hid (fun W hW => (HV.out.below HB0.out).below hW)
  have HB2 := Lib.hid hb2
  have HBK := Lib.hid hbb
  clear c0 c1 d0 d1 cf0 cf1 p0 p1 pf hb1 hb2 hw2 hv0 HEND hbb h3 h4
  by_cases h5 : 8 + M ≤ b.length
  rotate_left
  · have hg := HUN.out (fun h => h5 (by have := h.2.2.1; omega))
    obtain ⟨c0, c1, d0, d1, cf0, cf1⟩ := HNO.out _ HB2.out
    go_wp2_with fail
    refine (HAN.out (4 + M) (4 + (M : Int)) (by simp) _ (HVW.out _ HB2.out) (by omega) (by omega)).mono ?_
    rintro e w3 ⟨rfl, rfl⟩
    go_wp2_with fail
    refine bodyPost_ret (results_c1t (by rfl) _ (by rfl) (load_out2 c0 c1 Try.underlying25 rfl (by kernel_rfl))) rfl ?_
    exact HERR.out hg _ (HEN.out _ HB2.out)
  go_wp2_with fail
  refine (HAY.out (4 + M) (4 + (M : Int)) (by simp) _ (HVW.out _ HB2.out) (by omega)).mono ?_
  rintro e w3 ⟨rfl, rfl⟩
  obtain ⟨H, hH⟩ := Int.eq_ofNat_of_zero_le (leW_u (HBY.out.drop (4 + M))).1
  have hHm : hmanyAt b = H := by unfold hmanyAt; rw [hMm, hH, Int.toNat_natCast]
  have HHu : Hid (H < 4294967296) := Lib.hid (by have := (leW_u (HBY.out.drop (4 + M))).2; omega)
  rw [hH]
  clear hH
  have hHI : (0 : Int) ≤ (H : Int) := by omega
  by_cases h6 : (1 ≤ H ∧ H ≤ 4) ∧ b.length = 8 + M + 148 * H
  rotate_left
  · have hg := HUN.out (fun h => h6 ⟨⟨by have := h.2.2.2.1; omega, by have := h.2.2.2.2.1; omega⟩, by have := h.2.2.2.2.2; rw [hMm, hHm] at this; exact this⟩)
    obtain ⟨c0, c1, d0, d1, cf0, cf1⟩ := HNO.out _ HB2.out
    by_cases h7 : (H : Int) < 1
    · go_wp2_with fail
      refine bodyPost_ret (results_c1t (by rfl) _ (by rfl) (load_out2 c0 c1 Try.underlying25 rfl (by kernel_rfl))) rfl ?_
      exact HERR.out hg _ (HEN.out _ HB2.out)
    · by_cases h8 : (4 : Int) < (H : Int)
      · go_wp2_with fail
        refine bodyPost_ret (results_c1t (by rfl) _ (by rfl) (load_out2 c0 c1 Try.underlying25 rfl (by kernel_rfl))) rfl ?_
        exact HERR.out hg _ (HEN.out _ HB2.out)
      · have h9 : ¬ (b.length : Int) = 8 + (M : Int) + 148 * (H : Int) := fun e => h6 ⟨⟨by omega, by omega⟩, by omega⟩
        have h9' : ((b.length : Int) != 8 + (M : Int) + 148 * (H : Int)) = true := by simpa using h9
        go_wp2_with fail
        refine bodyPost_ret (results_c1t (by rfl) _ (by rfl) (load_out2 c0 c1 Try.underlying25 rfl (by kernel_rfl))) rfl ?_
        exact HERR.out hg _ (HEN.out _ HB2.out)
  obtain ⟨⟨h6a, h6b⟩, h6c⟩ := h6
  have h7 : ¬ (H : Int) < 1 := by omega
  have h8 : ¬ (4 : Int) < (H : Int) := by omega
  have h9' : ((b.length : Int) != 8 + (M : Int) + 148 * (H : Int)) = false := by simp; omega
  have HL := Lib.hid h6c
  have hfit : fitB b := ⟨h1, by omega, by omega, by omega, by omega, by rw [hMm, hHm]; exact h6c⟩
  have HFIT := Lib.hid hfit
  have HMb := Lib.hid hMm
  have HHb := Lib.hid hHm
  have HS0 := Lib.hid hs0
  have hHp : H ≤ 4 := h6b
  have hk0 : w1.heap.size ≤ w3.heap.size := by omega
  have hlb : b.length ≤ 4700 := by omega
  clear h6c h5 h2b
  go_wp2_with fail
  clear h1 h6a h7 h8 h9' hs2
  go_loopw [8] (fun i wr => ∃ k : Nat, i = .int .i64 k ∧ k ≤ H ∧ w3.heap.size ≤ wr.heap.size ∧ ∃ vh, Hid (G13 (w.heap.size + 2) 86 v0 vh w1 wr (hartsAt b (8 + M) k))) (fun i _ => H - (intOf i).toNat)
  case atStart => exact ⟨0, rfl, by omega, by omega, _, HG0.out⟩
  case round =>
    obtain ⟨k, rfl, hk, hsz, vh, HR⟩ := hrel
    have HBR : Hid (Below w1.heap.size w1 wr) := Lib.hid (by have := HR.out.bel; rw [← HS0.out] at this; exact this)
    by_cases hlt : k < H
    · 
      obtain ⟨wo, rfl⟩ : ∃ wo : World, wo = wr := ⟨_, rfl⟩
      obtain ⟨F, hF⟩ : ∃ F : Nat, F = 8 + M + 148 * k := ⟨_, rfl⟩
      have HF := Lib.hid hF
      have hF0 : F + 148 ≤ b.length := by have := HL.out; omega
      have hF1 : F ≤ 5000 := by omega
      have hFI : (8 : Int) + (M : Int) + 148 * (k : Int) = (F : Int) := by omega
      clear hF
      obtain ⟨w4, hw4⟩ : ∃ w4, w4 = wo.alloc (.cells (hcells hart0) 86) := ⟨_, rfl⟩
      have HX0 : Hid (HB wo.heap.size wo.heap.size w4 hart0) := Lib.hid (by rw [hw4]; exact HB.new _ _)
      have HB4 : Hid (Below wo.heap.size wo w4) := Lib.hid (by rw [hw4]; exact (by repeat (first | with_reducible exact Below.refl _ _ | with_reducible refine below_drewN ?_ _ | ((with_reducible refine Below.setCell ?_ ?hq _); case hq => (first | (simp; done) | (simp; omega))) | ((with_reducible refine Below.alloc ?_ ?hq _); case hq => (first | (simp; done) | (simp; omega))))))
      have HW4 := Lib.hid hw4
      have hz7 : (Try.prog.info? 86).map (·.size) = some (hcells hart0).size := by rw [show (hcells hart0).size = 37 from rfl]; kernel_rfl
      clear hw4
      have HVX : Hid (∀ W, Below wo.heap.size wo W → Ints .u8 W (.slice (some ⟨bb, off, none⟩) b.length cap) b) := Lib.hid (fun W hW => HVW.out W (HBR.out.trans (hW.mono (by have := HS0.out; omega))))
      go_upto_region 14 with (first | (refine wpList_store_new rfl 86 _ _ rfl wo _ (hcells hart0) rfl rfl rfl hz7 rfl (hlist_one hart0) ?_))
      rw [← HW4.out]
      clear hz7
      go_wp2_with fail
      go_loopw [11] (fun i wx => ∃ q : Nat, i = .int .i64 q ∧ q ≤ 32 ∧ Hid (HB wo.heap.size wo.heap.size wx (partH ((List.range q).map (fun i => leW (b.drop (F + 4 * i)))) q) ∧ Below wo.heap.size wo wx)) (fun i _ => 32 - (intOf i).toNat)
      case atStart => exact ⟨0, rfl, by omega, Lib.hid ⟨HX0.out, HB4.out⟩⟩
      case round =>
        obtain ⟨q, rfl, hq, HI⟩ := hrel
        by_cases hlt2 : q < 32
        · have i0 : (0 : Int) ≤ (q : Int) := by omega
          have i1 : (q : Int) < 32 := by omega
          have HL0 : Hid (((List.range q).map (fun i => leW (b.drop (F + 4 * i)))).length = q) := Lib.hid (by simp)
          have ck := HI.out.1.get (hlist_reg' (h := partH ((List.range q).map (fun i => leW (b.drop (F + 4 * i)))) q) (by simp [partH]; omega) q hlt2)
          have fk := HI.out.1.frz q
          go_wp2_with fail
          refine (HAY.out (F + 4 * q) ((F : Int) + 4 * (q : Int)) (by simp) _ (HVX.out _ HI.out.2) (by omega)).mono ?_
          rintro e w5 ⟨rfl, rfl⟩
          obtain ⟨x, hx⟩ := Int.eq_ofNat_of_zero_le (leW_u (HBY.out.drop (F + 4 * q))).1
          have hxu : x < 4294967296 := by have := (leW_u (HBY.out.drop (F + 4 * q))).2; omega
          have HX := Lib.hid hx
          rw [hx]
          clear hx
          go_wp2_with fail
          refine ⟨⟨q + 1, by simp, by omega, Lib.hid ⟨?_, HI.out.2.setCell (p := ⟨wo.heap.size, q, none⟩) (Nat.le_refl _) _⟩⟩, by simp [intOf]; omega⟩
          rw [List.range_succ, List.map_append, ← HX.out]
          exact HI.out.1.set q _ (by omega) (partH_set HL0.out hlt2 _) (by simp [partH]; omega)
        · obtain rfl : q = 32 := by omega
          obtain ⟨rg, hrg⟩ : ∃ r, r = (List.range 32).map (fun i => leW (b.drop (F + 4 * i))) := ⟨_, rfl⟩
          rw [← hrg] at HI
          have hrl : rg.length = 32 := by rw [hrg]; simp
          have HRG := Lib.hid hrg
          have HB5 := Lib.hid HI.out.2
          obtain ⟨y0, hy0⟩ : ∃ y : Hart, y = ⟨rg, 0, false, 0, 0, 0⟩ := ⟨_, rfl⟩
          have HX1 : Hid (HB wo.heap.size wo.heap.size wr y0) := Lib.hid (by have := HI.out.1; simp [partH] at this; rw [hy0]; exact this)
          have hl0 : y0.regs.length = 32 := by rw [hy0]; exact hrl
          have HY0 := Lib.hid hy0
          clear HI hrg hy0
          obtain ⟨x1, hx1⟩ := Int.eq_ofNat_of_zero_le (leW_u (HBY.out.drop (F + 128))).1
          have hu1 : x1 < 4294967296 := by have := (leW_u (HBY.out.drop (F + 128))).2; omega
          have q1 := HX1.out.get (hlist_pc' hl0)
          have r1 := HX1.out.frz 32
          go_wp2_with fail
          refine (HAY.out (F + 128) ((F : Int) + 128) (by simp) _ (HVX.out _ HB5.out) (by omega)).mono ?_
          rintro e wa1 ⟨rfl, rfl⟩
          rw [hx1]
          have HE1 := Lib.hid hx1
          clear hx1
          obtain ⟨y1, hy1⟩ : ∃ y : Hart, y = { y0 with pc := (x1 : Int) } := ⟨_, rfl⟩
          have hl1 : y1.regs.length = 32 := by rw [hy1]; exact hl0
          obtain ⟨wb1, hwb1⟩ : ∃ W, W = wa1.setCell ⟨wo.heap.size, 32, none⟩ (.int .u32 (x1 : Int)) := ⟨_, rfl⟩
          have HX2 : Hid (HB wo.heap.size wo.heap.size wb1 y1) := Lib.hid (by rw [hwb1, hy1]; exact HX1.out.set 32 _ (by omega) (hlist_setPc hl0 _) hl0)
          have HB6 : Hid (Below wo.heap.size wo wb1) := Lib.hid (by rw [hwb1]; exact HB5.out.setCell (p := ⟨wo.heap.size, 32, none⟩) (Nat.le_refl _) _)
          have HY1 := Lib.hid hy1
          have HWB1 := Lib.hid hwb1
          clear hy1 hwb1
          go_upto_region 19 with (fail)
          rw [← HWB1.out]
          clear q1 r1 hu1
          obtain ⟨x2, hx2⟩ := Int.eq_ofNat_of_zero_le (leW_u (HBY.out.drop (F + 132))).1
          have hu2 : x2 < 4294967296 := by have := (leW_u (HBY.out.drop (F + 132))).2; omega
          have q2 := HX2.out.get (hlist_held' hl1)
          have r2 := HX2.out.frz 33
          go_wp2_with fail
          refine (HAY.out (F + 132) ((F : Int) + 132) (by simp) _ (HVX.out _ HB6.out) (by omega)).mono ?_
          rintro e wa2 ⟨rfl, rfl⟩
          rw [hx2]
          have HE2 := Lib.hid hx2
          clear hx2
          obtain ⟨y2, hy2⟩ : ∃ y : Hart, y = { y1 with held := ((x2 : Int) == 1) } := ⟨_, rfl⟩
          have hl2 : y2.regs.length = 32 := by rw [hy2]; exact hl1
          obtain ⟨wb2, hwb2⟩ : ∃ W, W = wa2.setCell ⟨wo.heap.size, 33, none⟩ (.bool ((x2 : Int) == 1)) := ⟨_, rfl⟩
          have HX3 : Hid (HB wo.heap.size wo.heap.size wb2 y2) := Lib.hid (by rw [hwb2, hy2]; exact HX2.out.set 33 _ (by omega) (hlist_setHeld hl1 _) hl1)
          have HB7 : Hid (Below wo.heap.size wo wb2) := Lib.hid (by rw [hwb2]; exact HB6.out.setCell (p := ⟨wo.heap.size, 33, none⟩) (Nat.le_refl _) _)
          have HY2 := Lib.hid hy2
          have HWB2 := Lib.hid hwb2
          clear hy2 hwb2
          go_upto_region 20 with (fail)
          rw [← HWB2.out]
          clear q2 r2 hu2
          obtain ⟨x3, hx3⟩ := Int.eq_ofNat_of_zero_le (leW_u (HBY.out.drop (F + 136))).1
          have hu3 : x3 < 4294967296 := by have := (leW_u (HBY.out.drop (F + 136))).2; omega
          have q3 := HX3.out.get (hlist_heldAt' hl2)
          have r3 := HX3.out.frz 34
          go_wp2_with fail
          refine (HAY.out (F + 136) ((F : Int) + 136) (by simp) _ (HVX.out _ HB7.out) (by omega)).mono ?_
          rintro e wa3 ⟨rfl, rfl⟩
          rw [hx3]
          have HE3 := Lib.hid hx3
          clear hx3
          obtain ⟨y3, hy3⟩ : ∃ y : Hart, y = { y2 with heldAt := (x3 : Int) } := ⟨_, rfl⟩
          have hl3 : y3.regs.length = 32 := by rw [hy3]; exact hl2
          obtain ⟨wb3, hwb3⟩ : ∃ W, W = wa3.setCell ⟨wo.heap.size, 34, none⟩ (.int .u32 (x3 : Int)) := ⟨_, rfl⟩
          have HX4 : Hid (HB wo.heap.size wo.heap.size wb3 y3) := Lib.hid (by rw [hwb3, hy3]; exact HX3.out.set 34 _ (by omega) (hlist_setHeldAt hl2 _) hl2)
          have HB8 : Hid (Below wo.heap.size wo wb3) := Lib.hid (by rw [hwb3]; exact HB7.out.setCell (p := ⟨wo.heap.size, 34, none⟩) (Nat.le_refl _) _)
          have HY3 := Lib.hid hy3
          have HWB3 := Lib.hid hwb3
          clear hy3 hwb3
          go_upto_region 21 with (fail)
          rw [← HWB3.out]
          clear q3 r3 hu3
          obtain ⟨x4, hx4⟩ := Int.eq_ofNat_of_zero_le (leW_u (HBY.out.drop (F + 140))).1
          have hu4 : x4 < 4294967296 := by have := (leW_u (HBY.out.drop (F + 140))).2; omega
          have q4 := HX4.out.get (hlist_state' hl3)
          have r4 := HX4.out.frz 35
          go_wp2_with fail
          refine (HAY.out (F + 140) ((F : Int) + 140) (by simp) _ (HVX.out _ HB8.out) (by omega)).mono ?_
          rintro e wa4 ⟨rfl, rfl⟩
          rw [hx4]
          have HE4 := Lib.hid hx4
          clear hx4
          obtain ⟨y4, hy4⟩ : ∃ y : Hart, y = { y3 with state := (x4 : Int) } := ⟨_, rfl⟩
          have hl4 : y4.regs.length = 32 := by rw [hy4]; exact hl3
          obtain ⟨wb4, hwb4⟩ : ∃ W, W = wa4.setCell ⟨wo.heap.size, 35, none⟩ (.int .i64 (x4 : Int)) := ⟨_, rfl⟩
          have HX5 : Hid (HB wo.heap.size wo.heap.size wb4 y4) := Lib.hid (by rw [hwb4, hy4]; exact HX4.out.set 35 _ (by omega) (hlist_setState hl3 _) hl3)
          have HB9 : Hid (Below wo.heap.size wo wb4) := Lib.hid (by rw [hwb4]; exact HB8.out.setCell (p := ⟨wo.heap.size, 35, none⟩) (Nat.le_refl _) _)
          have HY4 := Lib.hid hy4
          have HWB4 := Lib.hid hwb4
          clear hy4 hwb4
          go_upto_region 22 with (fail)
          rw [← HWB4.out]
          clear q4 r4 hu4
          obtain ⟨x5, hx5⟩ := Int.eq_ofNat_of_zero_le (leW_u (HBY.out.drop (F + 144))).1
          have hu5 : x5 < 4294967296 := by have := (leW_u (HBY.out.drop (F + 144))).2; omega
          have q5 := HX5.out.get (hlist_cause' hl4)
          have r5 := HX5.out.frz 36
          go_wp2_with fail
          refine (HAY.out (F + 144) ((F : Int) + 144) (by simp) _ (HVX.out _ HB9.out) (by omega)).mono ?_
          rintro e wa5 ⟨rfl, rfl⟩
          rw [hx5]
          have HE5 := Lib.hid hx5
          clear hx5
          obtain ⟨y5, hy5⟩ : ∃ y : Hart, y = { y4 with cause := (x5 : Int) } := ⟨_, rfl⟩
          have hl5 : y5.regs.length = 32 := by rw [hy5]; exact hl4
          obtain ⟨wb5, hwb5⟩ : ∃ W, W = wa5.setCell ⟨wo.heap.size, 36, none⟩ (.int .i64 (x5 : Int)) := ⟨_, rfl⟩
          have HX6 : Hid (HB wo.heap.size wo.heap.size wb5 y5) := Lib.hid (by rw [hwb5, hy5]; exact HX5.out.set 36 _ (by omega) (hlist_setCause hl4 _) hl4)
          have HB10 : Hid (Below wo.heap.size wo wb5) := Lib.hid (by rw [hwb5]; exact HB9.out.setCell (p := ⟨wo.heap.size, 36, none⟩) (Nat.le_refl _) _)
          have HY5 := Lib.hid hy5
          have HWB5 := Lib.hid hwb5
          clear hy5 hwb5
          go_upto_region 23 with (fail)
          rw [← HWB5.out]
          clear q5 r5 hu5
          have hye : y5 = hartAt b F := by
            rw [HY5.out, HY4.out, HY3.out, HY2.out, HY1.out, HY0.out, HRG.out]
            unfold hartAt
            rw [HE1.out, HE2.out, HE3.out, HE4.out, HE5.out]
          have hg := HR.out.below HB10.out
          have HYW : Hid y5.Wf := Lib.hid (by rw [hye]; exact hartAt_wf HBY.out F)
          have HNX : Hid (hartsAt b (8 + M) (k + 1) = hartsAt b (8 + M) k ++ [y5]) := Lib.hid (by rw [hartsAt_succ, hye, HF.out])
          have hlk : (hartsAt b (8 + M) k).length = k := by simp [hartsAt]
          have HLK := Lib.hid hlk
          obtain ⟨hsk, hhsk⟩ : ∃ h, h = hartsAt b (8 + M) k := ⟨_, rfl⟩
          rw [← hhsk] at hg HNX HLK
          obtain ⟨ah, ch, rfl⟩ := owns_slice hg.own
          have c1 := hg.c1
          have f1 := hg.frz 1
          have HGG2 := Lib.hid hg
          have hat := HX6.out.at_
          have hz7 : (Try.prog.info? 86).map (·.size) = some (hcells y5).size := by rw [hcells_size HYW.out]; kernel_rfl
          have hxs : (hcells y5).size = 37 := hcells_size HYW.out
          have hxf := fold_hart2 y5 hl5
          have hsb : w.heap.size + 2 + 1 ≤ wb5.heap.size := hg.lt
          obtain ⟨i0', hi, hi0, hi1, hi2⟩ := info_parts (show (Try.prog.info? 86).map (fun i => (i.zero, i.size, i.bytes)) = some (some (.agg (hcells hart0)), 37, 160) by kernel_rfl)
          clear hye hlk hhsk hg hl0 hl1 hl2 hl3 hl4 hrl HY0 HY1 HY2 HY3 HY4 HY5 HE1 HE2 HE3 HE4 HE5 HRG HX1 HX2 HX3 HX4 HX5 HWB1 HWB2 HWB3 HWB4 HWB5 HB5 HB6 HB7 HB8 HB9 HR hFI
          go_wp2_with (first | (refine wpList_load_at rfl 86 _ rfl wo.heap.size 0 rfl (hcells y5) _ hat Try.underlying86 rfl hz7 ?_) | (at_builtin; refine append_any rfl _ _ 23 rfl (w.heap.size + 2 + 1) 86 i0' _ 37 160 Try.underlying23 hi hi0 hi1 hi2 (by kernel_rfl) (by decide) _ hsk.length (hsk.flatMap hlist) rfl (owns_below HGG2.out.own (Below.alloc (Below.refl _ _) (Nat.le_refl _) _)) (.slice (some ⟨wb5.heap.size, 0, none⟩) 1 1) 1 (hlist y5) rfl ?k2 ?k3 ?k4 ?k5 ?k6 ?_))
          case k2 =>
            have hq := at_alloc wb5 (hlist y5) 86 (0, 0)
            exact ⟨by rw [hlist_length HYW.out], _, 1, rfl, Nat.le_refl _, by decide, (by intro e; cases e), fun a ha _ => by cases ha; exact ⟨rfl, hq⟩⟩
          case k3 => exact fun u hu => hlist_one y5 u (by simpa [hcells] using hu)
          case k4 => have := HLK.out; omega
          case k5 => have := HLK.out; unfold maxLen; omega
          case k6 => (first | omega | (simp; omega))
          intro v6 w6 hown6 hgrow6
          have hb6 : Below wb5.heap.size wb5 (wb5.alloc (.cells (hcells y5) 86)) := Below.alloc (Below.refl _ _) (Nat.le_refl _) _
          have hg6 := (HGG2.out.below hb6)
          have e6 := hgrow6.block (w.heap.size + 2) hg6.lt (fun e => by have := hg6.own.lt _ e.symm; omega)
          have k1' := (cell_block e6 1).trans hg6.c1
          have kf1 := (frozen_block e6 1).trans (hg6.frz 1)
          have hnext := hg6.next (x := y5) hown6 hgrow6
          obtain ⟨a6, c6, rfl⟩ := owns_slice hown6
          have hs6 : wb5.heap.size ≤ w6.heap.size := Nat.le_trans hb6.size hgrow6.size
          have HNE := Lib.hid hnext
          have HS5 : Hid (wo.heap.size ≤ wb5.heap.size) := Lib.hid (HB10.out.size)
          clear hat hown6 hgrow6 hb6 hg6 e6 hnext c1 f1 hxf
          go_wp2_with fail
          refine ⟨⟨k + 1, by simp, by omega, by have := HS5.out; simp; omega, _, Lib.hid (by rw [HNX.out]; exact HNE.out)⟩, by simp [intOf]; omega⟩
    · obtain rfl : k = H := by omega
      have hbl := HL.out
      have ha0 : a0 = some ⟨bb, off + 4, none⟩ := by rw [HA0.out, if_neg (by omega)]
      subst ha0
      obtain rfl := HV0.out
      obtain ⟨hsk, hhsk⟩ : ∃ h, h = hartsAt b (8 + M) k := ⟨_, rfl⟩
      have hlk : hsk.length = k := by rw [hhsk]; simp [hartsAt]
      rw [← hhsk] at HR
      have hown := HR.out.own
      rw [hlk] at hown
      obtain ⟨ah, ch, rfl⟩ := owns_slice hown
      obtain ⟨m, hm⟩ : ∃ m, m = machAtB b := ⟨_, rfl⟩
      have hmb : m = ⟨(b.drop 4).take M, hsk⟩ := by rw [hm, hhsk]; unfold machAtB; rw [HMb.out, HHb.out]
      have hml : m.mem.length = M := by rw [hmb]; simp; omega
      have hmh : m.harts.length = k := by rw [hmb]; exact hlk
      have wfm : m.Wf := by rw [hm]; exact machAtB_wf HBY.out
      have hmem : Ints .u8 wr (.slice (some ⟨bb, off + 4, none⟩) M (cap - 4)) m.mem := by
        have e1 := Ints.rest (HVW.out wr HBR.out) 4 (by omega)
        rw [show b.length - 4 = (b.drop 4).length by simp] at e1
        have e2 := Ints.cut e1 M (by simp; omega)
        rw [hmb]; exact e2
      have hmat : MachAt wr (.slice (some ⟨bb, off + 4, none⟩) M (cap - 4)) (.slice ah k ch) m := ⟨hmem, by rw [hmh, hmb]; exact owns_sl hown⟩
      have HMA := Lib.hid hmat
      have hGm : G = if wrong m [] = 0 ∧ mbytes m = b then (m, (0 : Int)) else (⟨[], []⟩, 2) := by
        rw [HGG.out, hm]
        exact getS_at HBY.out HFIT.out (machAtB_wf HBY.out)
      have HGM := Lib.hid hGm
      have HWW : Hid (∀ W, Below wr.heap.size wr W → Calls Try.prog 15 #[.agg #[.slice (some ⟨bb, off + 4, none⟩) M (cap - 4), .slice ah k ch], .slice none 0 0] W fun e w' => e = .returned (.int .i64 (wrong m [])) ∧ Below W.heap.size W w') := Lib.hid (fun W hW => wrong_any _ _ _ m wfm [] W (HMA.out.below hW) (Sl.nil _ _) (by simp))
      have HBB : Hid (wrong m [] = 0 → ∀ W, Below wr.heap.size wr W → Calls Try.prog 16 #[.agg #[.slice (some ⟨bb, off + 4, none⟩) M (cap - 4), .slice ah k ch]] W fun e w' => e = .returned (.string (strOfNums (mbytes m))) ∧ Below W.heap.size W w') := Lib.hid (fun hw W hW => bytes13_any _ _ m wfm W (HMA.out.below hW) hw)
      have HCV : Hid (∀ W, Below wr.heap.size wr W → (convert 22 9 (.slice (some ⟨bb, off, none⟩) b.length cap)).run Try.prog W = .ok (.string (strOfNums b)) W) := Lib.hid (fun W hW => conv_any (P := Try.prog) W _ b _ _ _ Try.underlying22 Try.underlying5 Try.underlying9 (HVW.out W (HBR.out.trans (hW.mono HBR.out.size))))
      have hat : At wr (w.heap.size + 2) 0 [.slice (some ⟨bb, off + 4, none⟩) M (cap - 4), .slice ah k ch] := fun j hj => by
        match j, hj with
        | 0, _ => exact HR.out.c0
        | 1, _ => exact HR.out.c1
      have HAT := Lib.hid hat
      have hlm := HR.out.lt
      have hne : w.heap.size + 2 < wr.heap.size := hlm
      obtain ⟨q, hq⟩ : ∃ q, q = wrong m [] := ⟨_, rfl⟩
      simp only [← hq] at HWW HBB HGM
      have HOW := Lib.hid hown
      clear hm hhsk hmb hmem hmat hGm hat hown hlk HL HMb HHb hbl hq
      have hc := HNO.out wr HBR.out
      obtain ⟨c0, c1, d0, d1, cf0, cf1⟩ := hc
      have HC4 := Lib.hid (And.intro c0 (And.intro c1 (And.intro d0 (And.intro d1 (And.intro cf0 cf1)))))
      have hlw : w.heap.size < wr.heap.size := by omega
      have hlw1 : w.heap.size + 1 < wr.heap.size := by omega
      clear c0 c1 d0 d1 cf0 cf1
      by_cases hq0 : q = 0
      rotate_left
      · have hqb : (q != 0) = true := by simpa using hq0
        have hg : G = (⟨[], []⟩, 2) := by rw [HGM.out, if_neg (fun h => hq0 h.1)]
        go_wp2_with fail
        refine region_quiet_lit (fun W => Below wr.heap.size wr W) (by kernel_rfl) (by kernel_rfl) (Below.drew (Below.refl _ _)) ?_
        refine wpQuiet_load_at rfl 25 _ rfl (w.heap.size + 2) 0 rfl #[.slice (some ⟨bb, off + 4, none⟩) M (cap - 4), .slice ah k ch] _ (fun W hW => HAT.out.of_lt hW hne) Try.underlying25 rfl (by show _ = some 2; kernel_rfl) ?_
        quiet_step ((intro hC; exact (HWW.out _ hC).mono (fun e w'' ⟨he, hb⟩ => ⟨he, hC.trans (hb.mono hC.size)⟩)))
        repeat quiet_step ((intro _; rfl))
        refine wpQuiet_nil ?_
        intro w6 hb6
        obtain ⟨x0, x1, y0, y1, z0, z1⟩ := HC4.out
        have c0 := (hb6.cell (p := ⟨w.heap.size, 0, none⟩) hlw).trans x0
        have c1 := (hb6.cell (p := ⟨w.heap.size, 1, none⟩) hlw).trans x1
        have d0 := (hb6.cell (p := ⟨w.heap.size + 1, 0, none⟩) hlw1).trans y0
        have d1 := (hb6.cell (p := ⟨w.heap.size + 1, 1, none⟩) hlw1).trans y1
        have cf0 := (hb6.frozen (p := ⟨w.heap.size, 0, none⟩) hlw).trans z0
        have cf1 := (hb6.frozen (p := ⟨w.heap.size, 1, none⟩) hlw).trans z1
        clear x0 x1 y0 y1 z0 z1
        go_wp2_with fail
        refine bodyPost_ret (results_c1t (by rfl) _ (by rfl) (load_out2 c0 c1 Try.underlying25 rfl (by kernel_rfl))) rfl ?_
        exact HERR.out hg _ (HEN.out _ (HBR.out.trans (hb6.mono HBR.out.size)))
      · subst hq0
        by_cases heq : mbytes m = b
        · have hbq : ((strOfNums (mbytes m)).toList == (strOfNums b).toList) = true := by rw [heq]; exact beq_self_eq_true _
          have hg : G = (m, 0) := by rw [HGM.out, if_pos ⟨rfl, heq⟩]
          clear heq
          go_wp2_with fail
          refine region_quiet_lit (fun W => Below wr.heap.size wr W) (by kernel_rfl) (by kernel_rfl) (Below.drew (Below.refl _ _)) ?_
          refine wpQuiet_load_at rfl 25 _ rfl (w.heap.size + 2) 0 rfl #[.slice (some ⟨bb, off + 4, none⟩) M (cap - 4), .slice ah k ch] _ (fun W hW => HAT.out.of_lt hW hne) Try.underlying25 rfl (by show _ = some 2; kernel_rfl) ?_
          quiet_step ((intro hC; exact (HWW.out _ hC).mono (fun e w'' ⟨he, hb⟩ => ⟨he, hC.trans (hb.mono hC.size)⟩)))
          iterate 2 quiet_step ((intro _; rfl))
          refine wpQuiet_load_g rfl 25 _ rfl (w.heap.size + 2) 0 rfl #[.slice (some ⟨bb, off + 4, none⟩) M (cap - 4), .slice ah k ch] _ (fun W hW => HAT.out.of_lt hW hne) Try.underlying25 rfl (by show _ = some 2; kernel_rfl) ?_
          quiet_step ((intro hC; exact (HBB.out (by first | rfl | trivial) _ hC).mono (fun e w'' ⟨he, hb⟩ => ⟨he, hC.trans (hb.mono hC.size)⟩)))
          quiet_step ((intro _; rfl))
          refine wpQuiet_convert_g rfl _ _ _ rfl _ _ rfl (fun W hW => HCV.out W hW) ?_
          repeat quiet_step ((intro _; rfl))
          refine wpQuiet_nil ?_
          intro w6 hb6
          obtain ⟨x0, x1, y0, y1, z0, z1⟩ := HC4.out
          have c0 := (hb6.cell (p := ⟨w.heap.size, 0, none⟩) hlw).trans x0
          have c1 := (hb6.cell (p := ⟨w.heap.size, 1, none⟩) hlw).trans x1
          have d0 := (hb6.cell (p := ⟨w.heap.size + 1, 0, none⟩) hlw1).trans y0
          have d1 := (hb6.cell (p := ⟨w.heap.size + 1, 1, none⟩) hlw1).trans y1
          have cf0 := (hb6.frozen (p := ⟨w.heap.size, 0, none⟩) hlw).trans z0
          have cf1 := (hb6.frozen (p := ⟨w.heap.size, 1, none⟩) hlw).trans z1
          have m0 : w6.cell? ⟨w.heap.size + 2, 0, none⟩ = some (.slice (some ⟨bb, off + 4, none⟩) M (cap - 4)) := (hb6.cell (p := ⟨w.heap.size + 2, 0, none⟩) hne).trans (HAT.out 0 (by simp))
          have m1 : w6.cell? ⟨w.heap.size + 2, 1, none⟩ = some (.slice ah k ch) := (hb6.cell (p := ⟨w.heap.size + 2, 1, none⟩) hne).trans (HAT.out 1 (by simp))
          clear x0 x1 y0 y1 z0 z1
          go_wp2_with fail
          refine bodyPost_ret (results_c1t (by rfl) _ (by rfl) (load_out2 c0 c1 Try.underlying25 rfl (by kernel_rfl))) rfl ?_
          rw [hg]
          have hbb := HBR.out.trans (hb6.mono HBR.out.size)
          exact ⟨⟨_, _, rfl, by
            have hmw := HMA.out.below hb6
            have ho6 := HOW.out
            exact ⟨Sl.set_other (p := ⟨w.heap.size, 1, none⟩) (Sl.set_other (p := ⟨w.heap.size, 0, none⟩) hmw.1 (fun b' _ _ _ e => by cases e; show w.heap.size ≠ bb; have := HBK.out; omega) _) (fun b' _ _ _ e => by cases e; show w.heap.size ≠ bb; have := HBK.out; omega) _, Sl.set_other (p := ⟨w.heap.size, 1, none⟩) (Sl.set_other (p := ⟨w.heap.size, 0, none⟩) hmw.2 (fun b' _ _ _ e => by show w.heap.size ≠ b'; have := (ho6.lt b' (by rw [e]; rfl)).1; omega) _) (fun b' _ _ _ e => by show w.heap.size ≠ b'; have := (ho6.lt b' (by rw [e]; rfl)).1; omega) _⟩⟩, ((HB0.out.trans (hbb.mono (by have := HS0.out; omega))).setCell (p := ⟨w.heap.size, 0, none⟩) (Nat.le_refl _) _).setCell (p := ⟨w.heap.size, 1, none⟩) (Nat.le_refl _) _⟩
        · have hbq : ((strOfNums (mbytes m)).toList == (strOfNums b).toList) = false := by
            refine beq_eq_false_iff_ne.2 fun e => heq ?_
            rw [ByteArray.toList_eq, ByteArray.toList_eq] at e
            exact strOf_inj (mbytes_bytes wfm) HBY.out (ByteArray.ext (Array.toList_inj.mp e))
          have hg : G = (⟨[], []⟩, 2) := by rw [HGM.out, if_neg (fun h => heq h.2)]
          clear heq
          go_wp2_with fail
          refine region_quiet_lit (fun W => Below wr.heap.size wr W) (by kernel_rfl) (by kernel_rfl) (Below.drew (Below.refl _ _)) ?_
          refine wpQuiet_load_at rfl 25 _ rfl (w.heap.size + 2) 0 rfl #[.slice (some ⟨bb, off + 4, none⟩) M (cap - 4), .slice ah k ch] _ (fun W hW => HAT.out.of_lt hW hne) Try.underlying25 rfl (by show _ = some 2; kernel_rfl) ?_
          quiet_step ((intro hC; exact (HWW.out _ hC).mono (fun e w'' ⟨he, hb⟩ => ⟨he, hC.trans (hb.mono hC.size)⟩)))
          iterate 2 quiet_step ((intro _; rfl))
          refine wpQuiet_load_g rfl 25 _ rfl (w.heap.size + 2) 0 rfl #[.slice (some ⟨bb, off + 4, none⟩) M (cap - 4), .slice ah k ch] _ (fun W hW => HAT.out.of_lt hW hne) Try.underlying25 rfl (by show _ = some 2; kernel_rfl) ?_
          quiet_step ((intro hC; exact (HBB.out (by first | rfl | trivial) _ hC).mono (fun e w'' ⟨he, hb⟩ => ⟨he, hC.trans (hb.mono hC.size)⟩)))
          quiet_step ((intro _; rfl))
          refine wpQuiet_convert_g rfl _ _ _ rfl _ _ rfl (fun W hW => HCV.out W hW) ?_
          repeat quiet_step ((intro _; rfl))
          refine wpQuiet_nil ?_
          intro w6 hb6
          obtain ⟨x0, x1, y0, y1, z0, z1⟩ := HC4.out
          have c0 := (hb6.cell (p := ⟨w.heap.size, 0, none⟩) hlw).trans x0
          have c1 := (hb6.cell (p := ⟨w.heap.size, 1, none⟩) hlw).trans x1
          have d0 := (hb6.cell (p := ⟨w.heap.size + 1, 0, none⟩) hlw1).trans y0
          have d1 := (hb6.cell (p := ⟨w.heap.size + 1, 1, none⟩) hlw1).trans y1
          have cf0 := (hb6.frozen (p := ⟨w.heap.size, 0, none⟩) hlw).trans z0
          have cf1 := (hb6.frozen (p := ⟨w.heap.size, 1, none⟩) hlw).trans z1
          have m0 : w6.cell? ⟨w.heap.size + 2, 0, none⟩ = some (.slice (some ⟨bb, off + 4, none⟩) M (cap - 4)) := (hb6.cell (p := ⟨w.heap.size + 2, 0, none⟩) hne).trans (HAT.out 0 (by simp))
          have m1 : w6.cell? ⟨w.heap.size + 2, 1, none⟩ = some (.slice ah k ch) := (hb6.cell (p := ⟨w.heap.size + 2, 1, none⟩) hne).trans (HAT.out 1 (by simp))
          clear x0 x1 y0 y1 z0 z1
          go_wp2_with fail
          refine bodyPost_ret (results_c1t (by rfl) _ (by rfl) (load_out2 c0 c1 Try.underlying25 rfl (by kernel_rfl))) rfl ?_
          exact HERR.out hg _ (HEN.out _ (HBR.out.trans (hb6.mono HBR.out.size)))
end Go.Proofs.Ytlfnddmncbkjaaa.W
