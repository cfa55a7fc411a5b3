/- micro.Run, walked: what may not be. -/
import Derived.Test.YtlfnddmncbkjaabZWRun8g
namespace Go.Proofs.Ytlfnddmncbkjaab.W
set_option linter.unusedVariables false
set_option linter.unusedSimpArgs false
open Go.RowKit Fb
set_option maxRecDepth 100000 in
set_option maxHeartbeats 3200000 in
theorem run8_no (vc : Value) (code : List MicD) (h : Hart) (vm : Value) (m : List Int) (bf bt steps : Int) (w : World) (hc : Sl w vc 5 code.length (code.flatMap mlist)) (hok : ∀ x ∈ code, x.Ok) (wf : h.Wf) (hm : Ints .u8 w vm m) (hwr : wrong7 code h m steps = true) :
    Calls Try.prog 37 #[vc, .agg (hcells h), vm, .agg #[.int .u32 bf, .int .u32 bt], .int .i64 steps] w fun e w' => e = .returned (.tuple #[.agg (didl0 hart0 (.slice none 0 0)).toArray, .bool false]) ∧ Below w.heap.size w w' := by
  obtain ⟨am, cm, rfl, hmm1, hmm2, -⟩ := hm.open
  obtain ⟨z, hz⟩ : ∃ z, z = (didl0 hart0 (.slice none 0 0)).toArray := ⟨_, rfl⟩
  have hz0 : z = #[.int .u32 0, .int .u32 0, .int .u32 0, .int .u32 0, .int .u32 0, .int .u32 0, .int .u32 0, .int .u32 0, .int .u32 0, .int .u32 0, .int .u32 0, .int .u32 0, .int .u32 0, .int .u32 0, .int .u32 0, .int .u32 0, .int .u32 0, .int .u32 0, .int .u32 0, .int .u32 0, .int .u32 0, .int .u32 0, .int .u32 0, .int .u32 0, .int .u32 0, .int .u32 0, .int .u32 0, .int .u32 0, .int .u32 0, .int .u32 0, .int .u32 0, .int .u32 0, .int .u32 0, .bool false, .int .u32 0, .int .i64 0, .int .i64 0, .slice none 0 0, .slice none 0 0, .int .i64 0, .slice none 0 0] := by rw [hz]; rfl
  have hzs : z.size = 41 := by rw [hz0]; rfl
  obtain ⟨w1, hw1⟩ : ∃ w1, w1 = ((w.alloc (.cells (hcells h) 57)).alloc (.cells #[.int .u32 bf, .int .u32 bt] 60)).alloc (.cells z 64) := ⟨_, rfl⟩
  have HW1 : Hid (w1 = ((w.alloc (.cells (hcells h) 57)).alloc (.cells #[.int .u32 bf, .int .u32 bt] 60)).alloc (.cells #[.int .u32 0, .int .u32 0, .int .u32 0, .int .u32 0, .int .u32 0, .int .u32 0, .int .u32 0, .int .u32 0, .int .u32 0, .int .u32 0, .int .u32 0, .int .u32 0, .int .u32 0, .int .u32 0, .int .u32 0, .int .u32 0, .int .u32 0, .int .u32 0, .int .u32 0, .int .u32 0, .int .u32 0, .int .u32 0, .int .u32 0, .int .u32 0, .int .u32 0, .int .u32 0, .int .u32 0, .int .u32 0, .int .u32 0, .int .u32 0, .int .u32 0, .int .u32 0, .int .u32 0, .bool false, .int .u32 0, .int .i64 0, .int .i64 0, .slice none 0 0, .slice none 0 0, .int .i64 0, .slice none 0 0] 64)) := Lib.hid (by rw [hw1, hz0])
  have hb1 : Below w.heap.size w w1 := by rw [hw1]; exact (by repeat (first | with_reducible exact Below.refl _ _ | with_reducible refine below_drewN ?_ _ | ((with_reducible refine Below.setCell ?_ ?hq _); case hq => (first | (simp; done) | (simp; omega))) | ((with_reducible refine Below.alloc ?_ ?hq _); case hq => (first | (simp; done) | (simp; omega)))))
  have hs1 : w1.heap.size = w.heap.size + 3 := by rw [hw1]; simp
  have hat : At w1 w.heap.size 0 (hlist h) := by rw [hw1]; exact At.below (w := w.alloc (.cells (hcells h) 57)) (at_alloc w (hlist h) 57 (0, 0)) (by repeat (first | with_reducible exact Below.refl _ _ | with_reducible refine below_drewN ?_ _ | ((with_reducible refine Below.setCell ?_ ?hq _); case hq => (first | (simp; done) | (simp; omega))) | ((with_reducible refine Below.alloc ?_ ?hq _); case hq => (first | (simp; done) | (simp; omega)))))
  have hZ : w1.heap[w.heap.size + 1 + 1]? = some (.cells z 64 (0, 0)) := by
    have := heap_alloc_new ((w.alloc (.cells (hcells h) 57)).alloc (.cells #[.int .u32 bf, .int .u32 bt] 60)) (.cells z 64)
    rw [World.size_alloc, World.size_alloc] at this
    rw [hw1]; exact this
  have hcsz : (Try.prog.info? 57).map (·.size) = some (hcells h).size := by rw [hcells_size wf]; kernel_rfl
  have HMA := Lib.hid (mmay_any vc code w1 (Sl.below hc hb1) hok)
  have HMH := Lib.hid (fun W => may_any h wf W)
  obtain ⟨ac, cc, rfl, -⟩ := hc.open (fun _ _ => rfl) (by omega)
  have h35 := hat.get (hlist_state wf)
  obtain ⟨st, hst⟩ : ∃ s, s = h.state := ⟨_, rfl⟩
  rw [← hst] at h35
  obtain ⟨mb, hmb⟩ : ∃ mb, mb = mayL code := ⟨_, rfl⟩
  obtain ⟨hk, hhk⟩ : ∃ hk, hk = h.ok := ⟨_, rfl⟩
  rw [← hmb] at HMA
  rw [← hhk] at HMH
  have hcs : mb = false ∨ (mb = true ∧ hk = false) ∨ (mb = true ∧ hk = true ∧ ¬ st = 0) ∨ (mb = true ∧ hk = true ∧ st = 0 ∧ (4096 : Int) < m.length) ∨ (mb = true ∧ hk = true ∧ st = 0 ∧ ¬ (4096 : Int) < m.length ∧ steps < 0) ∨ (mb = true ∧ hk = true ∧ st = 0 ∧ ¬ (4096 : Int) < m.length ∧ ¬ steps < 0 ∧ 400 < steps) := by
    unfold wrong7 at hwr
    rw [← hmb, ← hhk, ← hst] at hwr
    cases mb with
    | false => exact .inl rfl
    | true =>
      cases hk with
      | false => exact .inr (.inl ⟨rfl, rfl⟩)
      | true =>
        by_cases c1 : st = 0
        · by_cases c2 : (4096 : Int) < m.length
          · exact .inr (.inr (.inr (.inl ⟨rfl, rfl, c1, c2⟩)))
          · by_cases c3 : steps < 0
            · exact .inr (.inr (.inr (.inr (.inl ⟨rfl, rfl, c1, c2, c3⟩))))
            · by_cases c4 : 400 < steps
              · exact .inr (.inr (.inr (.inr (.inr ⟨rfl, rfl, c1, c2, c3, c4⟩))))
              · rw [c1] at hwr
                simp [c3, c4] at hwr
                omega
        · exact .inr (.inr (.inl ⟨rfl, rfl, c1⟩))
  rw [← hz]
  have hz1 : Hid (z.all (·.oneCell') = true) := Lib.hid (by rw [hz0]; kernel_rfl)
  have HZ := Lib.hid hZ
  have HZ0 := Lib.hid hz0
  have HB1 := Lib.hid hb1
  have HC := Lib.hid hc
  simp only [Nat.zero_add] at h35
  have l1 : w.heap.size < w1.heap.size := by omega
  have hzi : (Try.prog.info? 64).map (·.size) = some z.size := by rw [hzs]; kernel_rfl
  clear hw1 hb1 hZ hz hz0 hm hok wf hwr hc hst hmb hhk
  rcases hcs with rfl | ⟨rfl, rfl⟩ | ⟨rfl, rfl, c1⟩ | ⟨rfl, rfl, rfl, c2⟩ | ⟨rfl, rfl, rfl, c2, c3⟩ | ⟨rfl, rfl, rfl, c2, c3, c4⟩
  · go_enter Try.func37, Try.ntmps37
    go_upto_region 1 with (fail)
    rw [← HW1.out]
    go_wp2_with fail
    refine HMA.out.mono ?_
    rintro e w2 ⟨rfl, hb2⟩
    have hat2 := hat.below hb2
    have s35 := (hb2.cell (p := ⟨w.heap.size, 35, none⟩) l1).trans h35
    have l2 : w.heap.size < w2.heap.size := lt_of_cell s35
    have HB2 : Hid (Below w1.heap.size w1 w2) := Lib.hid hb2
    clear hat h35 hb2
    have hZ3 := (HB2.out.block (w.heap.size + 1 + 1) (by omega)).trans HZ.out
    have ht : w2.there (w.heap.size + 1 + 1) 0 z.size := there_blk hZ3 rfl
    have hld := load_setCells (P := Try.prog) ht Try.underlying64 rfl hzi
    have hbf := HB1.out.trans (HB2.out.mono HB1.out.size)
    go_wp2_with (first | (refine wpList_store_mid rfl 64 _ _ rfl (w.heap.size + 1 + 1) 0 z rfl (by rw [HZ0.out]; rfl) ht hzi hz1.out ?_))
    exact bodyPost_ret (results_c1t (by rfl) _ (by rfl) hld) rfl ⟨rfl, below_setCells (by omega) _ _ _ hbf⟩
  · go_enter Try.func37, Try.ntmps37
    go_upto_region 1 with (fail)
    rw [← HW1.out]
    go_wp2_with fail
    refine HMA.out.mono ?_
    rintro e w2 ⟨rfl, hb2⟩
    have hat2 := hat.below hb2
    have s35 := (hb2.cell (p := ⟨w.heap.size, 35, none⟩) l1).trans h35
    have l2 : w.heap.size < w2.heap.size := lt_of_cell s35
    have HB2 : Hid (Below w1.heap.size w1 w2) := Lib.hid hb2
    clear hat h35 hb2
    go_wp2_with (first | (refine wpList_load_g (by rfl) 57 _ rfl w.heap.size 0 rfl (hcells h) _ hat2 Try.underlying57 rfl hcsz ?_))
    refine (HMH.out _).mono ?_
    rintro e w3 ⟨rfl, hb3⟩
    have t35 := (hb3.cell (p := ⟨w.heap.size, 35, none⟩) l2).trans s35
    have HB3 : Hid (Below w1.heap.size w1 w3) := Lib.hid (HB2.out.trans (hb3.mono HB2.out.size))
    clear hat2 s35 hb3
    have hZ3 := (HB3.out.block (w.heap.size + 1 + 1) (by omega)).trans HZ.out
    have ht : w3.there (w.heap.size + 1 + 1) 0 z.size := there_blk hZ3 rfl
    have hld := load_setCells (P := Try.prog) ht Try.underlying64 rfl hzi
    have hbf := HB1.out.trans (HB3.out.mono HB1.out.size)
    go_wp2_with (first | (refine wpList_store_mid rfl 64 _ _ rfl (w.heap.size + 1 + 1) 0 z rfl (by rw [HZ0.out]; rfl) ht hzi hz1.out ?_))
    exact bodyPost_ret (results_c1t (by rfl) _ (by rfl) hld) rfl ⟨rfl, below_setCells (by omega) _ _ _ hbf⟩
  · have e1 : (st == 0) = false := by simpa using c1
    have e2 : (st != 0) = true := by simpa using c1
    go_enter Try.func37, Try.ntmps37
    go_upto_region 1 with (fail)
    rw [← HW1.out]
    go_wp2_with fail
    refine HMA.out.mono ?_
    rintro e w2 ⟨rfl, hb2⟩
    have hat2 := hat.below hb2
    have s35 := (hb2.cell (p := ⟨w.heap.size, 35, none⟩) l1).trans h35
    have l2 : w.heap.size < w2.heap.size := lt_of_cell s35
    have HB2 : Hid (Below w1.heap.size w1 w2) := Lib.hid hb2
    clear hat h35 hb2
    go_wp2_with (first | (refine wpList_load_g (by rfl) 57 _ rfl w.heap.size 0 rfl (hcells h) _ hat2 Try.underlying57 rfl hcsz ?_))
    refine (HMH.out _).mono ?_
    rintro e w3 ⟨rfl, hb3⟩
    have t35 := (hb3.cell (p := ⟨w.heap.size, 35, none⟩) l2).trans s35
    have HB3 : Hid (Below w1.heap.size w1 w3) := Lib.hid (HB2.out.trans (hb3.mono HB2.out.size))
    clear hat2 s35 hb3
    have hZ3 := (HB3.out.block (w.heap.size + 1 + 1) (by omega)).trans HZ.out
    have ht : w3.there (w.heap.size + 1 + 1) 0 z.size := there_blk hZ3 rfl
    have hld := load_setCells (P := Try.prog) ht Try.underlying64 rfl hzi
    have hbf := HB1.out.trans (HB3.out.mono HB1.out.size)
    go_wp2_with (first | (refine wpList_store_mid rfl 64 _ _ rfl (w.heap.size + 1 + 1) 0 z rfl (by rw [HZ0.out]; rfl) ht hzi hz1.out ?_))
    exact bodyPost_ret (results_c1t (by rfl) _ (by rfl) hld) rfl ⟨rfl, below_setCells (by omega) _ _ _ hbf⟩
  · go_enter Try.func37, Try.ntmps37
    go_upto_region 1 with (fail)
    rw [← HW1.out]
    go_wp2_with fail
    refine HMA.out.mono ?_
    rintro e w2 ⟨rfl, hb2⟩
    have hat2 := hat.below hb2
    have s35 := (hb2.cell (p := ⟨w.heap.size, 35, none⟩) l1).trans h35
    have l2 : w.heap.size < w2.heap.size := lt_of_cell s35
    have HB2 : Hid (Below w1.heap.size w1 w2) := Lib.hid hb2
    clear hat h35 hb2
    go_wp2_with (first | (refine wpList_load_g (by rfl) 57 _ rfl w.heap.size 0 rfl (hcells h) _ hat2 Try.underlying57 rfl hcsz ?_))
    refine (HMH.out _).mono ?_
    rintro e w3 ⟨rfl, hb3⟩
    have t35 := (hb3.cell (p := ⟨w.heap.size, 35, none⟩) l2).trans s35
    have HB3 : Hid (Below w1.heap.size w1 w3) := Lib.hid (HB2.out.trans (hb3.mono HB2.out.size))
    clear hat2 s35 hb3
    have hZ3 := (HB3.out.block (w.heap.size + 1 + 1) (by omega)).trans HZ.out
    have ht : w3.there (w.heap.size + 1 + 1) 0 z.size := there_blk hZ3 rfl
    have hld := load_setCells (P := Try.prog) ht Try.underlying64 rfl hzi
    have hbf := HB1.out.trans (HB3.out.mono HB1.out.size)
    go_wp2_with (first | (refine wpList_store_mid rfl 64 _ _ rfl (w.heap.size + 1 + 1) 0 z rfl (by rw [HZ0.out]; rfl) ht hzi hz1.out ?_))
    exact bodyPost_ret (results_c1t (by rfl) _ (by rfl) hld) rfl ⟨rfl, below_setCells (by omega) _ _ _ hbf⟩
  · go_enter Try.func37, Try.ntmps37
    go_upto_region 1 with (fail)
    rw [← HW1.out]
    go_wp2_with fail
    refine HMA.out.mono ?_
    rintro e w2 ⟨rfl, hb2⟩
    have hat2 := hat.below hb2
    have s35 := (hb2.cell (p := ⟨w.heap.size, 35, none⟩) l1).trans h35
    have l2 : w.heap.size < w2.heap.size := lt_of_cell s35
    have HB2 : Hid (Below w1.heap.size w1 w2) := Lib.hid hb2
    clear hat h35 hb2
    go_wp2_with (first | (refine wpList_load_g (by rfl) 57 _ rfl w.heap.size 0 rfl (hcells h) _ hat2 Try.underlying57 rfl hcsz ?_))
    refine (HMH.out _).mono ?_
    rintro e w3 ⟨rfl, hb3⟩
    have t35 := (hb3.cell (p := ⟨w.heap.size, 35, none⟩) l2).trans s35
    have HB3 : Hid (Below w1.heap.size w1 w3) := Lib.hid (HB2.out.trans (hb3.mono HB2.out.size))
    clear hat2 s35 hb3
    have hZ3 := (HB3.out.block (w.heap.size + 1 + 1) (by omega)).trans HZ.out
    have ht : w3.there (w.heap.size + 1 + 1) 0 z.size := there_blk hZ3 rfl
    have hld := load_setCells (P := Try.prog) ht Try.underlying64 rfl hzi
    have hbf := HB1.out.trans (HB3.out.mono HB1.out.size)
    go_wp2_with (first | (refine wpList_store_mid rfl 64 _ _ rfl (w.heap.size + 1 + 1) 0 z rfl (by rw [HZ0.out]; rfl) ht hzi hz1.out ?_))
    exact bodyPost_ret (results_c1t (by rfl) _ (by rfl) hld) rfl ⟨rfl, below_setCells (by omega) _ _ _ hbf⟩
  · go_enter Try.func37, Try.ntmps37
    go_upto_region 1 with (fail)
    rw [← HW1.out]
    go_wp2_with fail
    refine HMA.out.mono ?_
    rintro e w2 ⟨rfl, hb2⟩
    have hat2 := hat.below hb2
    have s35 := (hb2.cell (p := ⟨w.heap.size, 35, none⟩) l1).trans h35
    have l2 : w.heap.size < w2.heap.size := lt_of_cell s35
    have HB2 : Hid (Below w1.heap.size w1 w2) := Lib.hid hb2
    clear hat h35 hb2
    go_wp2_with (first | (refine wpList_load_g (by rfl) 57 _ rfl w.heap.size 0 rfl (hcells h) _ hat2 Try.underlying57 rfl hcsz ?_))
    refine (HMH.out _).mono ?_
    rintro e w3 ⟨rfl, hb3⟩
    have t35 := (hb3.cell (p := ⟨w.heap.size, 35, none⟩) l2).trans s35
    have HB3 : Hid (Below w1.heap.size w1 w3) := Lib.hid (HB2.out.trans (hb3.mono HB2.out.size))
    clear hat2 s35 hb3
    have hZ3 := (HB3.out.block (w.heap.size + 1 + 1) (by omega)).trans HZ.out
    have ht : w3.there (w.heap.size + 1 + 1) 0 z.size := there_blk hZ3 rfl
    have hld := load_setCells (P := Try.prog) ht Try.underlying64 rfl hzi
    have hbf := HB1.out.trans (HB3.out.mono HB1.out.size)
    go_wp2_with (first | (refine wpList_store_mid rfl 64 _ _ rfl (w.heap.size + 1 + 1) 0 z rfl (by rw [HZ0.out]; rfl) ht hzi hz1.out ?_))
    exact bodyPost_ret (results_c1t (by rfl) _ (by rfl) hld) rfl ⟨rfl, below_setCells (by omega) _ _ _ hbf⟩
end Go.Proofs.Ytlfnddmncbkjaab.W
