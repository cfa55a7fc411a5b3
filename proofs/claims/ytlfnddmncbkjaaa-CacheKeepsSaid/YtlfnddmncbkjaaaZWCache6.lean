/- Package cache: Stale, walked. -/
import Derived.Test.YtlfnddmncbkjaaaZWCache3
import Derived.Test.YtlfnddmncbkjaaaZWCache5
import Derived.Test.YtlfnddmncbkjaaaZMB
namespace Go.Proofs.Ytlfnddmncbkjaaa.Fb
set_option linter.unusedVariables false
set_option linter.unusedSimpArgs false
open Go.RowKit
theorem stale_abs {fr tw : Int} : ∀ {ys l : List BlkD}, ys.map BlkD.abs = l.map BlkD.abs → (ys.filter (fun x => !staleB fr tw x)).map BlkD.abs = (l.filter (fun x => !staleB fr tw x)).map BlkD.abs
  | [], [], _ => rfl
  | [], _ :: _, h => by simp at h
  | _ :: _, [], h => by simp at h
  | y :: ys, x :: l, h => by
    simp only [List.map_cons, List.cons.injEq] at h
    obtain ⟨h1, h2⟩ := h
    have e : staleB fr tw y = staleB fr tw x := by
      have e1 : y.pc = x.pc := congrArg Prod.fst h1
      have e2 : y.ins = x.ins := congrArg Prod.snd h1
      unfold staleB; rw [e1, e2]
    have ih := stale_abs (fr := fr) (tw := tw) h2
    rw [List.filter_cons, List.filter_cons, e]
    split
    · rw [List.map_cons, List.map_cons, h1, ih]
    · exact ih
end Go.Proofs.Ytlfnddmncbkjaaa.Fb
namespace Go.Proofs.Ytlfnddmncbkjaaa.W
open Go.RowKit Fb
set_option maxRecDepth 100000 in
set_option maxHeartbeats 1600000 in
theorem cstale_far (room : Int) (v : Value) (pu st : Int) (l : List BlkD) (fr tw : Int) (w : World) (hv : Blks w v l) (hins : ∀ x ∈ l, x.ins.length ≤ 3518437208883) (hl : l.length * 32 ≤ 140737488351232) (hf : U32 fr) (ht : U32 tw) :
    Calls Try.prog 36 #[.agg #[.int .i64 room, v, .int .i64 pu, .int .i64 st], .agg #[.int .u32 fr, .int .u32 tw]] w fun e w' => (∃ v' zs, e = .returned (.agg #[.int .i64 room, v', .int .i64 pu, .int .i64 (wrap64 (st + ((l.length : Int) - (zs.length : Int))))]) ∧ Blks w' v' zs ∧ zs.map BlkD.abs = (l.filter (fun x => !staleB fr tw x)).map BlkD.abs ∧ Far w.heap.size v' zs) ∧ Below w.heap.size w w' := by
  obtain ⟨ao, cap, rfl, -⟩ := hv.1.open (fun _ _ => rfl) (by omega)
  obtain ⟨w1, hw1⟩ : ∃ w1, w1 = ((w.alloc (.cells #[.int .i64 room, .slice ao l.length cap, .int .i64 pu, .int .i64 st] 60)).alloc (.cells #[.int .u32 fr, .int .u32 tw] 65)).alloc (.cells #[.int .i64 0, .slice none 0 0, .int .i64 0, .int .i64 0] 60) := ⟨_, rfl⟩
  have hb1 : Below w.heap.size w w1 := by rw [hw1]; exact (by repeat (first | with_reducible exact Below.refl _ _ | with_reducible refine below_drewN ?_ _ | ((with_reducible refine Below.setCell ?_ ?hq _); case hq => (first | (simp; done) | (simp; omega))) | ((with_reducible refine Below.alloc ?_ ?hq _); case hq => (first | (simp; done) | (simp; omega)))))
  have hs1 : w1.heap.size = w.heap.size + 3 := by rw [hw1]; simp
  have c0 : (w1).cell? ⟨w.heap.size, 0, none⟩ = some (.int .i64 room) := by rw [hw1]; go_cell
  have c1 : (w1).cell? ⟨w.heap.size, 1, none⟩ = some (.slice ao l.length cap) := by rw [hw1]; go_cell
  have c2 : (w1).cell? ⟨w.heap.size, 2, none⟩ = some (.int .i64 pu) := by rw [hw1]; go_cell
  have c3 : (w1).cell? ⟨w.heap.size, 3, none⟩ = some (.int .i64 st) := by rw [hw1]; go_cell
  have r0 : (w1).cell? ⟨w.heap.size + 1, 0, none⟩ = some (.int .u32 fr) := by rw [hw1]; go_cell
  have r1 : (w1).cell? ⟨w.heap.size + 1, 1, none⟩ = some (.int .u32 tw) := by rw [hw1]; go_cell
  have z0 : (w1).cell? ⟨w.heap.size + 1 + 1, 0, none⟩ = some (.int .i64 0) := by rw [hw1]; go_cell
  have z1 : (w1).cell? ⟨w.heap.size + 1 + 1, 1, none⟩ = some (.slice none 0 0) := by rw [hw1]; go_cell
  have z2 : (w1).cell? ⟨w.heap.size + 1 + 1, 2, none⟩ = some (.int .i64 0) := by rw [hw1]; go_cell
  have z3 : (w1).cell? ⟨w.heap.size + 1 + 1, 3, none⟩ = some (.int .i64 0) := by rw [hw1]; go_cell
  have hfz : ∀ k o, k < 3 → w1.frozen? ⟨w.heap.size + k, o, none⟩ = false := fun k o hk => by
    match k, hk with
    | 0, _ => rw [hw1]; unfold World.frozen?; rw [heap_alloc_old _ _ (by simp; omega), heap_alloc_old _ _ (by simp)]; show (match (w.alloc _).heap[w.heap.size]? with | some (.cells _ _ (lo, hi)) => _ | _ => _) = _; rw [heap_alloc_new]; simp
    | 1, _ =>
      have := heap_alloc_new (w.alloc (.cells #[.int .i64 room, .slice ao l.length cap, .int .i64 pu, .int .i64 st] 60)) (.cells #[.int .u32 fr, .int .u32 tw] 65)
      rw [World.size_alloc] at this
      rw [hw1]; unfold World.frozen?; rw [heap_alloc_old _ _ (by simp), this]; simp
    | 2, _ =>
      have := heap_alloc_new ((w.alloc (.cells #[.int .i64 room, .slice ao l.length cap, .int .i64 pu, .int .i64 st] 60)).alloc (.cells #[.int .u32 fr, .int .u32 tw] 65)) (.cells #[.int .i64 0, .slice none 0 0, .int .i64 0, .int .i64 0] 60)
      rw [World.size_alloc, World.size_alloc] at this
      rw [hw1]; unfold World.frozen?; rw [this]; simp
  have HCO := Lib.hid (ccopied_any room (.slice ao l.length cap) pu st l w1 (hv.below hb1) hins hl)
  have HFZ := Lib.hid hfz
  have HW1 := Lib.hid hw1
  have HB1 := Lib.hid hb1
  have HINS := Lib.hid hins
  have hln : l.length ≤ 4398046510976 := by omega
  clear hw1 hb1 hv hins hl hfz
  go_enter Try.func36, Try.ntmps36
  go_upto_region 1 with (fail)
  rw [← HW1.out]
  go_wp2_with fail
  refine HCO.out.mono ?_
  rintro e w2 ⟨⟨v2, ys, rfl, hcp, habs⟩, hb2⟩
  have hyl : ys.length = l.length := by have := congrArg List.length habs; simpa using this
  obtain ⟨a2, c2', rfl⟩ := owns_slice hcp.own
  rw [hyl]
  have l1 : w.heap.size < w1.heap.size := by omega
  have l2 : w.heap.size + 1 < w1.heap.size := by omega
  have l3 : w.heap.size + 1 + 1 < w1.heap.size := by omega
  have d0 : (w2).cell? ⟨w.heap.size, 0, none⟩ = some (.int .i64 room) := (hb2.cell (p := ⟨w.heap.size, 0, none⟩) (l1)).trans c0
  have d1 : (w2).cell? ⟨w.heap.size, 1, none⟩ = some (.slice ao l.length cap) := (hb2.cell (p := ⟨w.heap.size, 1, none⟩) (l1)).trans c1
  have d2 : (w2).cell? ⟨w.heap.size, 2, none⟩ = some (.int .i64 pu) := (hb2.cell (p := ⟨w.heap.size, 2, none⟩) (l1)).trans c2
  have d3 : (w2).cell? ⟨w.heap.size, 3, none⟩ = some (.int .i64 st) := (hb2.cell (p := ⟨w.heap.size, 3, none⟩) (l1)).trans c3
  have q0 : (w2).cell? ⟨w.heap.size + 1, 0, none⟩ = some (.int .u32 fr) := (hb2.cell (p := ⟨w.heap.size + 1, 0, none⟩) (l2)).trans r0
  have q1 : (w2).cell? ⟨w.heap.size + 1, 1, none⟩ = some (.int .u32 tw) := (hb2.cell (p := ⟨w.heap.size + 1, 1, none⟩) (l2)).trans r1
  have y0 : (w2).cell? ⟨w.heap.size + 1 + 1, 0, none⟩ = some (.int .i64 0) := (hb2.cell (p := ⟨w.heap.size + 1 + 1, 0, none⟩) (l3)).trans z0
  have y1 : (w2).cell? ⟨w.heap.size + 1 + 1, 1, none⟩ = some (.slice none 0 0) := (hb2.cell (p := ⟨w.heap.size + 1 + 1, 1, none⟩) (l3)).trans z1
  have y2 : (w2).cell? ⟨w.heap.size + 1 + 1, 2, none⟩ = some (.int .i64 0) := (hb2.cell (p := ⟨w.heap.size + 1 + 1, 2, none⟩) (l3)).trans z2
  have y3 : (w2).cell? ⟨w.heap.size + 1 + 1, 3, none⟩ = some (.int .i64 0) := (hb2.cell (p := ⟨w.heap.size + 1 + 1, 3, none⟩) (l3)).trans z3
  have hf2 : ∀ k o, k < 3 → w2.frozen? ⟨w.heap.size + k, o, none⟩ = false := fun k o hk => (hb2.frozen (p := ⟨w.heap.size + k, o, none⟩) (by show w.heap.size + k < _; omega)).trans (HFZ.out k o hk)
  have hs2 := hb2.size
  have hth : w2.there w.heap.size 0 (#[.int .i64 room, .slice a2 l.length c2', .int .i64 pu, .int .i64 st] : Array Value).size := fun j hj => ⟨by
    have hj4 : j < 4 := hj
    rw [Nat.zero_add]
    match j, hj4 with
    | 0, _ => rw [d0]; rfl
    | 1, _ => rw [d1]; rfl
    | 2, _ => rw [d2]; rfl
    | 3, _ => rw [d3]; rfl, by have := hf2 0 (0 + j) (by omega); simpa using this⟩
  have hsz : (Try.prog.info? 60).map (·.size) = some (#[.int .i64 room, .slice a2 l.length c2', .int .i64 pu, .int .i64 st] : Array Value).size := by show _ = some 4; kernel_rfl
  have hall : (#[.int .i64 room, .slice a2 l.length c2', .int .i64 pu, .int .i64 st] : Array Value).all (·.oneCell') = true := by simp [Value.oneCell']
  obtain ⟨w3, hw3⟩ : ∃ w3, w3 = w2.setCells w.heap.size 0 (#[.int .i64 room, .slice a2 l.length c2', .int .i64 pu, .int .i64 st] : Array Value).toList := ⟨_, rfl⟩
  have hbk : ∀ k, k ≠ w.heap.size → w3.heap[k]? = w2.heap[k]? := fun k hk => by rw [hw3]; exact heap_setCells hk _ _ _
  have hat3 : At w3 w.heap.size 0 [.int .i64 room, .slice a2 l.length c2', .int .i64 pu, .int .i64 st] := by rw [hw3]; exact at_set_all hth
  have hs3 : w3.heap.size = w2.heap.size := by rw [hw3]; simp [size_setCells]
  have hf3 : ∀ k o, k < 3 → w3.frozen? ⟨w.heap.size + k, o, none⟩ = false := fun k o hk => by rw [hw3, World.frozen?_setCells]; exact hf2 k o hk
  have q0' := (cell_block (hbk (w.heap.size + 1) (by omega)) 0).trans q0
  have q1' := (cell_block (hbk (w.heap.size + 1) (by omega)) 1).trans q1
  have p0 : (w3).cell? ⟨w.heap.size, 0, none⟩ = some (.int .i64 room) := by have := hat3 0 (by simp); simpa using this
  have p1 : (w3).cell? ⟨w.heap.size, 1, none⟩ = some (.slice a2 l.length c2') := by have := hat3 1 (by simp); simpa using this
  have p2 : (w3).cell? ⟨w.heap.size, 2, none⟩ = some (.int .i64 pu) := by have := hat3 2 (by simp); simpa using this
  have p3 : (w3).cell? ⟨w.heap.size, 3, none⟩ = some (.int .i64 st) := by have := hat3 3 (by simp); simpa using this
  have HCP3 : Hid (Cp w1.heap.size 63 54 w3 (.slice a2 l.length c2') ys) := Lib.hid (by rw [hw3, ← hyl]; exact (hcp.mono (by omega)).sets (by omega) _ _)
  have HZ3 : Hid (w3.there (w.heap.size + 1 + 1) 0 4) := Lib.hid (fun j hj => ⟨by
    rw [Nat.zero_add, cell_block (hbk (w.heap.size + 1 + 1) (by omega))]
    match j, hj with
    | 0, _ => rw [y0]; rfl
    | 1, _ => rw [y1]; rfl
    | 2, _ => rw [y2]; rfl
    | 3, _ => rw [y3]; rfl, by have := hf3 2 (0 + j) (by omega); simpa using this⟩)
  have HAB := Lib.hid habs
  have HF3 := Lib.hid hf3
  have HYL := Lib.hid hyl
  have HB3 : Hid (Below w.heap.size w w3) := Lib.hid (by rw [hw3]; exact below_setCells (Nat.le_refl _) _ _ _ (HB1.out.trans (hb2.mono HB1.out.size)))
  have HDF := Lib.hid (dfunc_any w1.heap.size (.slice a2 l.length c2') ys fr tw (w.heap.size + 1) w3 HCP3.out (by omega) l2 q0' q1' (fun y hy => by
    obtain ⟨x, hx, e⟩ := List.mem_map.1 (show y.abs ∈ l.map BlkD.abs by rw [← habs]; exact List.mem_map_of_mem hy)
    have e2 : x.ins = y.ins := congrArg Prod.snd e
    rw [← e2]; exact HINS.out x hx) hf ht)
  have HW3 := Lib.hid hw3
  clear c0 c1 c2 c3 r0 r1 z0 z1 z2 z3 hb2 hf2 hcp habs hyl HFZ hw3 hbk hat3 hf3 q0 q1 y0 y1 y2 y3 d0 d1 d2 d3 q0' q1'
  go_upto_region 2 with (first | (refine wpList_store_mid rfl 60 _ _ rfl w.heap.size 0 #[.int .i64 room, .slice a2 l.length c2', .int .i64 pu, .int .i64 st] rfl rfl hth hsz hall ?_))
  rw [← HW3.out]
  clear hth hsz hall
  go_wp2_with fail
  refine HDF.out.mono ?_
  rintro e w4 ⟨⟨v4, rfl, hcp4⟩, hb4⟩
  obtain ⟨zs, hzs⟩ : ∃ zs, zs = ys.filter (fun x => !staleB fr tw x) := ⟨_, rfl⟩
  rw [← hzs] at hcp4
  obtain ⟨a4, c4, rfl⟩ := owns_slice hcp4.own
  have hzl : zs.length ≤ l.length := by rw [hzs, ← HYL.out]; exact List.length_filter_le _ _
  have HZA : Hid (zs.map BlkD.abs = (l.filter (fun x => !staleB fr tw x)).map BlkD.abs) := Lib.hid (by rw [hzs]; exact stale_abs HAB.out)
  have e0 : (w4).cell? ⟨w.heap.size, 0, none⟩ = some (.int .i64 room) := (hb4.cell (p := ⟨w.heap.size, 0, none⟩) (l1)).trans p0
  have e1 : (w4).cell? ⟨w.heap.size, 1, none⟩ = some (.slice a2 l.length c2') := (hb4.cell (p := ⟨w.heap.size, 1, none⟩) (l1)).trans p1
  have e2 : (w4).cell? ⟨w.heap.size, 2, none⟩ = some (.int .i64 pu) := (hb4.cell (p := ⟨w.heap.size, 2, none⟩) (l1)).trans p2
  have e3 : (w4).cell? ⟨w.heap.size, 3, none⟩ = some (.int .i64 st) := (hb4.cell (p := ⟨w.heap.size, 3, none⟩) (l1)).trans p3
  have hf4 : ∀ k o, k < 3 → w4.frozen? ⟨w.heap.size + k, o, none⟩ = false := fun k o hk => (hb4.frozen (p := ⟨w.heap.size + k, o, none⟩) (by show w.heap.size + k < _; omega)).trans (HF3.out k o hk)
  have f1 : w4.frozen? ⟨w.heap.size, 1, none⟩ = false := by simpa using hf4 0 1 (by omega)
  have f3 : w4.frozen? ⟨w.heap.size, 3, none⟩ = false := by simpa using hf4 0 3 (by omega)
  have HT4 : Hid (w4.there (w.heap.size + 1 + 1) 0 4) := Lib.hid (there_block HZ3.out (hb4.block _ (by omega)))
  have HCP4 := Lib.hid hcp4
  have HB4 := Lib.hid (HB3.out.trans (hb4.mono (by omega)))
  obtain ⟨sn, hsn⟩ : ∃ s, s = wrap64 (st + ((l.length : Int) - (zs.length : Int))) := ⟨_, rfl⟩
  have HSN := Lib.hid hsn
  clear p0 p1 p2 p3 hb4 hcp4 hf4 hzs hsn HF3 HZ3 HCP3 HB3
  go_upto_region 5 with (fail)
  rw [← HSN.out]
  obtain ⟨w6, hw6⟩ : ∃ w6, w6 = (w4.setCell ⟨w.heap.size, 1, none⟩ (.slice a4 zs.length c4)).setCell ⟨w.heap.size, 3, none⟩ (.int .i64 sn) := ⟨_, rfl⟩
  rw [← hw6]
  have q0 : w6.cell? ⟨w.heap.size, 0, none⟩ = some (.int .i64 room) := by rw [hw6]; exact (World.cell?_setCell_other _ _ _ _ (by intro e; injection e with _ e2; omega)).trans ((World.cell?_setCell_other _ _ _ _ (by intro e; injection e with _ e2; omega)).trans e0)
  have q1 : w6.cell? ⟨w.heap.size, 1, none⟩ = some (.slice a4 zs.length c4) := by rw [hw6]; exact (World.cell?_setCell_other _ _ _ _ (by intro e; injection e with _ e2; omega)).trans (World.cell?_setCell_same _ _ _ e1)
  have q2 : w6.cell? ⟨w.heap.size, 2, none⟩ = some (.int .i64 pu) := by rw [hw6]; exact (World.cell?_setCell_other _ _ _ _ (by intro e; injection e with _ e2; omega)).trans ((World.cell?_setCell_other _ _ _ _ (by intro e; injection e with _ e2; omega)).trans e2)
  have q3 : w6.cell? ⟨w.heap.size, 3, none⟩ = some (.int .i64 sn) := by rw [hw6]; exact World.cell?_setCell_same _ _ _ ((World.cell?_setCell_other _ _ _ _ (by intro e; injection e with _ e2; omega)).trans e3)
  have ht6 : w6.there (w.heap.size + 1 + 1) 0 (#[.int .i64 room, .slice a4 zs.length c4, .int .i64 pu, .int .i64 sn] : Array Value).size := by
    rw [hw6]; exact there_setCell (there_setCell HT4.out _ rfl _) _ rfl _
  have hsz6 : (Try.prog.info? 60).map (·.size) = some (#[.int .i64 room, .slice a4 zs.length c4, .int .i64 pu, .int .i64 sn] : Array Value).size := by show _ = some 4; kernel_rfl
  have hall : (#[.int .i64 room, .slice a4 zs.length c4, .int .i64 pu, .int .i64 sn] : Array Value).all (·.oneCell') = true := by simp [Value.oneCell']
  have hld := load_setCells (P := Try.prog) ht6 Try.underlying60 rfl hsz6
  have HCP6 : Hid (Cp w1.heap.size 63 54 w6 (.slice a4 zs.length c4) zs) := Lib.hid (by rw [hw6]; exact (HCP4.out.set (by show w.heap.size < w1.heap.size; omega) _).set (by show w.heap.size < w1.heap.size; omega) _)
  have HB6 : Hid (Below w.heap.size w w6) := Lib.hid (by rw [hw6]; exact (HB4.out.setCell (p := ⟨w.heap.size, 1, none⟩) (Nat.le_refl _) _).setCell (p := ⟨w.heap.size, 3, none⟩) (Nat.le_refl _) _)
  clear hw6 e0 e1 e2 e3 f1 f3 HCP4 HB4
  go_wp2_with (first | (refine wpList_store_mid rfl 60 _ _ rfl (w.heap.size + 1 + 1) 0 #[.int .i64 room, .slice a4 zs.length c4, .int .i64 pu, .int .i64 sn] rfl rfl ht6 hsz6 hall ?_))
  refine bodyPost_ret (results_c1 (by rfl) _ (by rfl) hld) rfl ?_
  rw [HSN.out]
  exact ⟨⟨_, zs, rfl, (HCP6.out.sets (by omega) _ _).blks, HZA.out, HCP6.out.far.mono (by omega)⟩, below_setCells (by omega) _ _ _ HB6.out⟩
theorem cstale_any (room : Int) (v : Value) (pu st : Int) (l : List BlkD) (fr tw : Int) (w : World) (hv : Blks w v l) (hins : ∀ x ∈ l, x.ins.length ≤ 3518437208883) (hl : l.length * 32 ≤ 140737488351232) (hf : U32 fr) (ht : U32 tw) :
    Calls Try.prog 36 #[.agg #[.int .i64 room, v, .int .i64 pu, .int .i64 st], .agg #[.int .u32 fr, .int .u32 tw]] w fun e w' => (∃ v' zs, e = .returned (.agg #[.int .i64 room, v', .int .i64 pu, .int .i64 (wrap64 (st + ((l.length : Int) - (zs.length : Int))))]) ∧ Blks w' v' zs ∧ zs.map BlkD.abs = (l.filter (fun x => !staleB fr tw x)).map BlkD.abs) ∧ Below w.heap.size w w' := by
  refine (cstale_far room v pu st l fr tw w hv hins hl hf ht).mono ?_
  rintro e w' ⟨⟨v', zs, h1, h2, h3, -⟩, hb⟩
  exact ⟨⟨v', zs, h1, h2, h3⟩, hb⟩
end Go.Proofs.Ytlfnddmncbkjaaa.W
