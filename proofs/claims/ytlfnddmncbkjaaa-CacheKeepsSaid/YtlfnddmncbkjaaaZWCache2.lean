/- Package cache: clone, at, Find, walked. -/
import Derived.Test.YtlfnddmncbkjaaaZWCache1
namespace Go.Proofs.Ytlfnddmncbkjaaa.W
set_option linter.unusedVariables false
set_option linter.unusedSimpArgs false
open Go.RowKit Fb
set_option maxRecDepth 100000 in
set_option maxHeartbeats 800000 in
theorem cat_any (room : Int) (v : Value) (pu st : Int) (l : List BlkD) (p : Int) (w : World) (hv : Blks w v l) :
    Calls Try.prog 74 #[.agg #[.int .i64 room, v, .int .i64 pu, .int .i64 st], .int .u32 p] w fun e w' => e = .returned (.int .i64 (placeI l p)) ∧ Below w.heap.size w w' := by
  obtain ⟨ao, cap, rfl, -⟩ := hv.1.open (fun _ _ => rfl) (by omega)
  obtain ⟨w1, hw1⟩ : ∃ w1, w1 = (w.alloc (.cells #[.int .i64 room, .slice ao l.length cap, .int .i64 pu, .int .i64 st] 60)).alloc (.cells #[.int .u32 p] 33) := ⟨_, rfl⟩
  have hb1 : Below w.heap.size w w1 := by rw [hw1]; exact (by repeat (first | with_reducible exact Below.refl _ _ | with_reducible refine below_drewN ?_ _ | ((with_reducible refine Below.setCell ?_ ?hq _); case hq => (first | (simp; done) | (simp; omega))) | ((with_reducible refine Below.alloc ?_ ?hq _); case hq => (first | (simp; done) | (simp; omega)))))
  have c1 : w1.cell? ⟨w.heap.size, 1, none⟩ = some (.slice ao l.length cap) := by rw [hw1]; go_cell
  have HX := Lib.hid (indexOf_any (.slice ao l.length cap) l p (w.heap.size + 1) w1 (hv.below hb1) (by rw [hw1]; go_cell))
  have HW1 := Lib.hid hw1
  have HB1 := Lib.hid hb1
  clear hw1 hb1 hv
  go_enter Try.func74, Try.ntmps74
  go_upto_region 1 with (fail)
  rw [← HW1.out]
  go_wp2_with fail
  refine HX.out.mono ?_
  rintro e w2 ⟨rfl, hb2⟩
  have HB2 := Lib.hid (HB1.out.trans (hb2.mono HB1.out.size))
  clear hb2 c1
  go_wp2_with fail
  go_ret
  exact ⟨rfl, HB2.out⟩
theorem info_ins : (Try.prog.info? 54).map (fun i => (i.zero, i.size, i.bytes)) = some (some (.agg #[.int .i64 0, .int .i64 0, .int .i64 0, .int .i64 0, .int .i32 0]), 5, 40) := by kernel_rfl
set_option maxHeartbeats 400000 in
/-- slices.Clone at this type: nil stays nil, else a row of the call's own with the same cells -/
theorem clone_ins (v : Value) (n : Nat) (xs : List Value) (w : World) (hv : Sl w v 5 n xs) (h1c : ∀ u ∈ xs, u.oneCell' = true) (hr : n * 40 ≤ 140737488355328) :
    Calls Try.prog 95 #[v] w fun e w' => (∃ v', e = .returned v' ∧ w'.ownsRow w.heap.size 54 5 v' n xs ∧ (v' = .slice none 0 0 → v = .slice none 0 0)) ∧ Below w.heap.size w w' := by
  obtain ⟨hlen, ao, cap, rfl, hnc, hcm, hnone, hat⟩ := hv
  have heq := fun (W : World) (m c : Nat) => Lib.run_eql_slice_nil (P := Try.prog) W 61 54 ao m c 0 0 Try.underlying61
  unfold maxLen at hcm
  cases ao with
  | none =>
    obtain rfl : cap = 0 := hnone rfl
    obtain rfl : n = 0 := by omega
    obtain rfl : xs = [] := List.eq_nil_of_length_eq_zero (by simpa using hlen)
    clear hnone hat
    go_enter Try.func95, Try.ntmps95
    go_wp2
    go_ret
    exact ⟨⟨_, rfl, World.ownsRow_nil _ _ _ _, by simp⟩, Below.refl _ _⟩
  | some a =>
    obtain ⟨i0, hi, hz0, hz1, hz2⟩ := info_parts info_ins
    clear hnone
    have HAT := Lib.hid hat
    have HL := Lib.hid hlen
    have HC := Lib.hid h1c
    clear hat hlen h1c
    go_enter Try.func95, Try.ntmps95
    go_wp2_with (at_builtin; refine wpList_append_own _ rfl _ _ 61 rfl w.heap.size 54 i0 (.agg #[.int .i64 0, .int .i64 0, .int .i64 0, .int .i64 0, .int .i32 0]) 5 40 Try.underlying61 hi hz0 hz1 hz2 rfl (by decide) _ 0 [] rfl ?_ a n cap xs rfl HL.out ?_ HC.out ?_ ?_ ?_ ?_)
    rotate_right
    · intro v' w1 hown hgrow hnil
      go_wp2
      go_ret
      refine ⟨⟨_, rfl, ?_, ?_⟩, ?_⟩
      · simpa using hown
      · intro h
        exact (hnil h).elim
      · exact (Below.alloc (Below.refl _ _) (Nat.le_refl _) _).grown hgrow (by simp) (by intro k hk; simp [Value.ownBlock] at hk; omega)
    all_goals (first | (unfold maxLen; omega) | omega | (simp; done) | skip)
    · exact ownsRow_built _ _ _ _ (Nat.le_refl _)
    · intro j u hu
      have hj : j < xs.length := (List.getElem?_eq_some_iff.1 hu).1
      have hne : xs ≠ [] := by intro e; rw [e] at hj; simp at hj
      have h3 := (HAT.out a rfl hne)
      have h4 := h3.2 j hj
      have hu2 : u = xs[j] := by rw [List.getElem?_eq_getElem hj] at hu; exact (Option.some.inj hu).symm
      rw [hu2, addr_add a h3.1, World.cell?_alloc_lt _ _ _ (lt_of_cell h4)]
      exact h4
theorem ins_one (l : List InsD) : ∀ u ∈ l.flatMap ilist, u.oneCell' = true := fun u hu => by
  obtain ⟨i, _, hu⟩ := List.mem_flatMap.1 hu
  exact ilist_one i u hu
set_option maxRecDepth 100000 in
set_option maxHeartbeats 800000 in
/-- a block in memory of its own -/
theorem cclone_any (x : BlkD) (w : World) (hx : BlkOk w x) (hl : x.ins.length ≤ 3518437208883) :
    Calls Try.prog 75 #[.agg #[.int .u32 x.pc, x.vi]] w fun e w' => (∃ y : BlkD, e = .returned (.agg #[.int .u32 y.pc, y.vi]) ∧ y.pc = x.pc ∧ y.ins = x.ins ∧ BlkOk w' y ∧ w'.ownsRow (w.heap.size + 2) 54 5 y.vi y.ins.length (y.ins.flatMap ilist)) ∧ Below w.heap.size w w' := by
  obtain ⟨pc, vi, ins⟩ := x
  have hat := hx.at_
  have hpc := hx.pc
  dsimp only at hat hpc hl ⊢
  obtain ⟨ao, cap, rfl, -⟩ := hat.open (fun _ _ => rfl) (by omega)
  obtain ⟨w1, hw1⟩ : ∃ w1, w1 = (w.alloc (.cells #[.int .u32 pc, .slice ao ins.length cap] 63)).alloc (.cells #[.int .u32 0, .slice none 0 0] 63) := ⟨_, rfl⟩
  have hb1 : Below w.heap.size w w1 := by rw [hw1]; exact (by repeat (first | with_reducible exact Below.refl _ _ | with_reducible refine below_drewN ?_ _ | ((with_reducible refine Below.setCell ?_ ?hq _); case hq => (first | (simp; done) | (simp; omega))) | ((with_reducible refine Below.alloc ?_ ?hq _); case hq => (first | (simp; done) | (simp; omega)))))
  have hs1 : w1.heap.size = w.heap.size + 2 := by rw [hw1]; simp
  have c0 : (w1).cell? ⟨w.heap.size, 0, none⟩ = some (.int .u32 pc) := by rw [hw1]; go_cell
  have c1 : (w1).cell? ⟨w.heap.size, 1, none⟩ = some (.slice ao ins.length cap) := by rw [hw1]; go_cell
  have f1 : w1.frozen? ⟨w.heap.size, 1, none⟩ = false := by
    have : w1.heap[w.heap.size]? = some (.cells #[.int .u32 pc, .slice ao ins.length cap] 63 (0, 0)) := by rw [hw1, heap_alloc_old _ _ (by simp)]; exact heap_alloc_new _ _
    unfold World.frozen?; rw [this]; simp
  have hZ : w1.heap[w.heap.size + 1]? = some (.cells #[.int .u32 0, .slice none 0 0] 63 (0, 0)) := by
    have := heap_alloc_new (w.alloc (.cells #[.int .u32 pc, .slice ao ins.length cap] 63)) (.cells #[.int .u32 0, .slice none 0 0] 63)
    rw [World.size_alloc] at this
    rw [hw1]; exact this
  have HCL := Lib.hid (clone_ins (.slice ao ins.length cap) ins.length (ins.flatMap ilist) w1 (Sl.below hat hb1) (ins_one ins) (by omega))
  have HW1 := Lib.hid hw1
  have HB1 := Lib.hid hb1
  have HZ := Lib.hid hZ
  clear hw1 hb1 hx hat hZ
  go_enter Try.func75, Try.ntmps75
  go_upto_region 1 with (fail)
  rw [← HW1.out]
  go_wp2_with fail
  refine HCL.out.mono ?_
  rintro e w2 ⟨⟨v2, rfl, hown, -⟩, hb2⟩
  obtain ⟨a2, c2, rfl⟩ := owns_slice hown
  have l1 : w.heap.size < w1.heap.size := by omega
  have l2 : w.heap.size + 1 < w1.heap.size := by omega
  have d0 := (hb2.cell (p := ⟨w.heap.size, 0, none⟩) l1).trans c0
  have d1 := (hb2.cell (p := ⟨w.heap.size, 1, none⟩) l1).trans c1
  have g1 := (hb2.frozen (p := ⟨w.heap.size, 1, none⟩) l1).trans f1
  have hZ2 := (hb2.block (w.heap.size + 1) l2).trans HZ.out
  have z0 : w2.cell? ⟨w.heap.size + 1, 0, none⟩ = some (.int .u32 0) := by simp [World.cell?, hZ2]
  have z1 : w2.cell? ⟨w.heap.size + 1, 1, none⟩ = some (.slice none 0 0) := by simp [World.cell?, hZ2]
  have zf0 : w2.frozen? ⟨w.heap.size + 1, 0, none⟩ = false := by simp [World.frozen?, hZ2]
  have zf1 : w2.frozen? ⟨w.heap.size + 1, 1, none⟩ = false := by simp [World.frozen?, hZ2]
  have HO := Lib.hid hown
  have HB2 := Lib.hid (HB1.out.trans (hb2.mono HB1.out.size))
  clear c0 c1 f1 hb2 hown hZ2
  go_wp2_with fail
  have y0 : (w2.setCell ⟨w.heap.size, 1, none⟩ (.slice a2 ins.length c2)).cell? ⟨w.heap.size + 1, 0, none⟩ = some (.int .u32 0) := (World.cell?_setCell_other _ _ _ _ (by intro e; injection e with e1 _; omega)).trans z0
  have y1 : (w2.setCell ⟨w.heap.size, 1, none⟩ (.slice a2 ins.length c2)).cell? ⟨w.heap.size + 1, 1, none⟩ = some (.slice none 0 0) := (World.cell?_setCell_other _ _ _ _ (by intro e; injection e with e1 _; omega)).trans z1
  have ho := HO.out
  rw [hs1] at ho
  have ho2 := ownsRow_setCell_below (ownsRow_setCell_below (ownsRow_setCell_below ho (a := ⟨w.heap.size, 1, none⟩) (by show w.heap.size < w.heap.size + 2; omega) (.slice a2 ins.length c2)) (a := ⟨w.heap.size + 1, 0, none⟩) (by show w.heap.size + 1 < w.heap.size + 2; omega) (.int .u32 pc)) (a := ⟨w.heap.size + 1, 1, none⟩) (by show w.heap.size + 1 < w.heap.size + 2; omega) (.slice a2 ins.length c2)
  refine bodyPost_ret (results_c1 (by rfl) _ (by rfl) (load_out2 y0 y1 Try.underlying63 rfl (by kernel_rfl))) rfl ⟨⟨⟨pc, .slice a2 ins.length c2, ins⟩, rfl, rfl, rfl, ⟨owns_sl ho2, hpc⟩, ho2⟩, ?_⟩
  exact ((HB2.out.setCell (p := ⟨w.heap.size, 1, none⟩) (Nat.le_refl _) _).setCell (p := ⟨w.heap.size + 1, 0, none⟩) (by show w.heap.size ≤ w.heap.size + 1; omega) _).setCell (p := ⟨w.heap.size + 1, 1, none⟩) (by show w.heap.size ≤ w.heap.size + 1; omega) _
set_option maxRecDepth 100000 in
set_option maxHeartbeats 800000 in
/-- what is found; its place is above or below 0 -/
theorem cfind_yes (room : Int) (v : Value) (pu st : Int) (l : List BlkD) (p : Int) (w : World) (hv : Blks w v l) (hins : ∀ x ∈ l, x.ins.length ≤ 3518437208883) (hlt : placeN l p < l.length) :
    Calls Try.prog 33 #[.agg #[.int .i64 room, v, .int .i64 pu, .int .i64 st], .int .u32 p] w fun e w' => (∃ y : BlkD, e = .returned (.tuple #[.agg #[.int .u32 y.pc, y.vi], .bool true]) ∧ y.pc = l[placeN l p].pc ∧ y.ins = l[placeN l p].ins ∧ BlkOk w' y) ∧ Below w.heap.size w w' := by
  obtain ⟨ao, cap, rfl, hc, hm, -, ho⟩ := hv.1.open (fun _ _ => rfl) (by omega)
  unfold maxLen at hm
  obtain ⟨w1, hw1⟩ : ∃ w1, w1 = (w.alloc (.cells #[.int .i64 room, .slice ao l.length cap, .int .i64 pu, .int .i64 st] 60)).alloc (.cells #[.int .u32 0, .slice none 0 0] 63) := ⟨_, rfl⟩
  have hb1 : Below w.heap.size w w1 := by rw [hw1]; exact (by repeat (first | with_reducible exact Below.refl _ _ | with_reducible refine below_drewN ?_ _ | ((with_reducible refine Below.setCell ?_ ?hq _); case hq => (first | (simp; done) | (simp; omega))) | ((with_reducible refine Below.alloc ?_ ?hq _); case hq => (first | (simp; done) | (simp; omega)))))
  have hs1 : w1.heap.size = w.heap.size + 2 := by rw [hw1]; simp
  have c0 : (w1).cell? ⟨w.heap.size, 0, none⟩ = some (.int .i64 room) := by rw [hw1]; go_cell
  have c1 : (w1).cell? ⟨w.heap.size, 1, none⟩ = some (.slice ao l.length cap) := by rw [hw1]; go_cell
  have c2 : (w1).cell? ⟨w.heap.size, 2, none⟩ = some (.int .i64 pu) := by rw [hw1]; go_cell
  have c3 : (w1).cell? ⟨w.heap.size, 3, none⟩ = some (.int .i64 st) := by rw [hw1]; go_cell
  have hZ : w1.heap[w.heap.size + 1]? = some (.cells #[.int .u32 0, .slice none 0 0] 63 (0, 0)) := by
    have := heap_alloc_new (w.alloc (.cells #[.int .i64 room, .slice ao l.length cap, .int .i64 pu, .int .i64 st] 60)) (.cells #[.int .u32 0, .slice none 0 0] 63)
    rw [World.size_alloc] at this
    rw [hw1]; exact this
  have HAT := Lib.hid (cat_any room (.slice ao l.length cap) pu st l p w1 (hv.below hb1))
  have HW1 := Lib.hid hw1
  have HB1 := Lib.hid hb1
  have HZ := Lib.hid hZ
  have HV := Lib.hid hv
  have HO := Lib.hid ho
  have HINS := Lib.hid hins
  obtain ⟨q, hq⟩ : ∃ q, q = placeI l p := ⟨_, rfl⟩
  rw [← hq] at HAT
  have hqk : q = (placeN l p : Int) := by rw [hq]; unfold placeI; rw [if_pos hlt]
  obtain ⟨x, hx⟩ : ∃ x, x = l[placeN l p] := ⟨_, rfl⟩
  rw [← hx]
  have hxm : x ∈ l := by rw [hx]; exact List.getElem_mem hlt
  obtain ⟨b, off, rfl, hbl, hel⟩ := ho (by intro e; rw [e] at hlt; simp at hlt)
  have hat := hel _ hlt
  rw [← hx] at hat
  obtain ⟨k, hk⟩ : ∃ k, k = placeN l p := ⟨_, rfl⟩
  rw [← hk] at hqk hat hlt
  have hxo := hv.2 x hxm
  obtain ⟨ac, cc, hvi, -⟩ := hxo.at_.open (fun _ _ => rfl) (by omega)
  have HCL : Hid (∀ W, Below w.heap.size w W → _) := Lib.hid (fun W hW => cclone_any x W (hxo.below hW) (hins x hxm))
  have HXA := Lib.hid hat
  subst hqk
  have HVI := Lib.hid hvi
  have k0 : (0 : Int) ≤ (k : Int) := by omega
  have k1 : (k : Int) < (l.length : Int) := by omega
  have k2 : ¬ (k : Int) < 0 := by omega
  clear hw1 hb1 hZ hv ho hins hq hx hel hk hat hxo hvi hxm
  go_enter Try.func33, Try.ntmps33
  go_upto_region 1 with (fail)
  rw [← HW1.out]
  go_wp2_with fail
  refine HAT.out.mono ?_
  rintro e w2 ⟨rfl, hb2⟩
  have l1 : w.heap.size < w1.heap.size := by omega
  have l2 : w.heap.size + 1 < w1.heap.size := by omega
  have d1 := (hb2.cell (p := ⟨w.heap.size, 1, none⟩) l1).trans c1
  have HZ2 := Lib.hid ((hb2.block (w.heap.size + 1) l2).trans HZ.out)
  have hs2 := hb2.size
  have HB2 := Lib.hid (HB1.out.trans (hb2.mono HB1.out.size))
  have hax := HXA.out.of_lt HB2.out hbl
  have x0 := hax.get (j := 0) (v := .int .u32 x.pc) rfl
  have x1 := hax.get (j := 1) (v := x.vi) rfl
  simp only [Nat.add_zero] at x0
  rw [HVI.out] at x1
  have HC2 := Lib.hid (HCL.out w2 HB2.out)
  rw [HVI.out] at HC2
  clear c0 c1 c2 c3 hb2 hax
  go_wp2_with fail
  refine HC2.out.mono ?_
  rintro e w3 ⟨⟨y, rfl, hy1, hy2, hy3, hy4⟩, hb3⟩
  have l3 : w.heap.size + 1 < w2.heap.size := by omega
  have hZ3 := (hb3.block (w.heap.size + 1) l3).trans HZ2.out
  have z0 : w3.cell? ⟨w.heap.size + 1, 0, none⟩ = some (.int .u32 0) := by simp [World.cell?, hZ3]
  have z1 : w3.cell? ⟨w.heap.size + 1, 1, none⟩ = some (.slice none 0 0) := by simp [World.cell?, hZ3]
  have zf0 : w3.frozen? ⟨w.heap.size + 1, 0, none⟩ = false := by simp [World.frozen?, hZ3]
  have zf1 : w3.frozen? ⟨w.heap.size + 1, 1, none⟩ = false := by simp [World.frozen?, hZ3]
  obtain ⟨ay, cy, hyv, -⟩ := hy3.at_.open (fun _ _ => rfl) (by omega)
  rw [hyv]
  have HB3 := Lib.hid (HB2.out.trans (hb3.mono HB2.out.size))
  clear hb3 hZ3 x0 x1 d1
  go_wp2_with fail
  have ho := hy4
  rw [hyv, hy2] at ho
  have hpc := hy3.pc
  rw [hy1] at hpc
  have ho2 := ownsRow_setCell_below (ownsRow_setCell_below ho (a := ⟨w.heap.size + 1, 0, none⟩) (by show w.heap.size + 1 < w2.heap.size + 2; omega) (.int .u32 x.pc)) (a := ⟨w.heap.size + 1, 1, none⟩) (by show w.heap.size + 1 < w2.heap.size + 2; omega) (.slice ay x.ins.length cy)
  refine bodyPost_ret (results_c1t (by rfl) _ (by rfl) (load_out2 z0 z1 Try.underlying63 rfl (by kernel_rfl))) rfl ⟨⟨⟨x.pc, .slice ay x.ins.length cy, x.ins⟩, rfl, rfl, rfl, ⟨owns_sl ho2, hpc⟩⟩, ?_⟩
  exact (HB3.out.setCell (p := ⟨w.heap.size + 1, 0, none⟩) (by show w.heap.size ≤ w.heap.size + 1; omega) _).setCell (p := ⟨w.heap.size + 1, 1, none⟩) (by show w.heap.size ≤ w.heap.size + 1; omega) _
set_option maxRecDepth 100000 in
set_option maxHeartbeats 800000 in
/-- what is found; its place is above or below 0 -/
theorem cfind_no (room : Int) (v : Value) (pu st : Int) (l : List BlkD) (p : Int) (w : World) (hv : Blks w v l) (hins : ∀ x ∈ l, x.ins.length ≤ 3518437208883) (hlt : ¬ placeN l p < l.length) :
    Calls Try.prog 33 #[.agg #[.int .i64 room, v, .int .i64 pu, .int .i64 st], .int .u32 p] w fun e w' => e = .returned (.tuple #[.agg #[.int .u32 0, .slice none 0 0], .bool false]) ∧ Below w.heap.size w w' := by
  obtain ⟨ao, cap, rfl, hc, hm, -, ho⟩ := hv.1.open (fun _ _ => rfl) (by omega)
  unfold maxLen at hm
  obtain ⟨w1, hw1⟩ : ∃ w1, w1 = (w.alloc (.cells #[.int .i64 room, .slice ao l.length cap, .int .i64 pu, .int .i64 st] 60)).alloc (.cells #[.int .u32 0, .slice none 0 0] 63) := ⟨_, rfl⟩
  have hb1 : Below w.heap.size w w1 := by rw [hw1]; exact (by repeat (first | with_reducible exact Below.refl _ _ | with_reducible refine below_drewN ?_ _ | ((with_reducible refine Below.setCell ?_ ?hq _); case hq => (first | (simp; done) | (simp; omega))) | ((with_reducible refine Below.alloc ?_ ?hq _); case hq => (first | (simp; done) | (simp; omega)))))
  have hs1 : w1.heap.size = w.heap.size + 2 := by rw [hw1]; simp
  have c0 : (w1).cell? ⟨w.heap.size, 0, none⟩ = some (.int .i64 room) := by rw [hw1]; go_cell
  have c1 : (w1).cell? ⟨w.heap.size, 1, none⟩ = some (.slice ao l.length cap) := by rw [hw1]; go_cell
  have c2 : (w1).cell? ⟨w.heap.size, 2, none⟩ = some (.int .i64 pu) := by rw [hw1]; go_cell
  have c3 : (w1).cell? ⟨w.heap.size, 3, none⟩ = some (.int .i64 st) := by rw [hw1]; go_cell
  have hZ : w1.heap[w.heap.size + 1]? = some (.cells #[.int .u32 0, .slice none 0 0] 63 (0, 0)) := by
    have := heap_alloc_new (w.alloc (.cells #[.int .i64 room, .slice ao l.length cap, .int .i64 pu, .int .i64 st] 60)) (.cells #[.int .u32 0, .slice none 0 0] 63)
    rw [World.size_alloc] at this
    rw [hw1]; exact this
  have HAT := Lib.hid (cat_any room (.slice ao l.length cap) pu st l p w1 (hv.below hb1))
  have HW1 := Lib.hid hw1
  have HB1 := Lib.hid hb1
  have HZ := Lib.hid hZ
  have HV := Lib.hid hv
  have HO := Lib.hid ho
  have HINS := Lib.hid hins
  obtain ⟨q, hq⟩ : ∃ q, q = placeI l p := ⟨_, rfl⟩
  rw [← hq] at HAT
  have hqk : q = -1 := by rw [hq]; unfold placeI; rw [if_neg hlt]
  subst hqk
  clear hw1 hb1 hZ hv ho hins hq hlt
  go_enter Try.func33, Try.ntmps33
  go_upto_region 1 with (fail)
  rw [← HW1.out]
  go_wp2_with fail
  refine HAT.out.mono ?_
  rintro e w2 ⟨rfl, hb2⟩
  have l2 : w.heap.size + 1 < w1.heap.size := by omega
  have hZ2 := (hb2.block (w.heap.size + 1) l2).trans HZ.out
  have z0 : w2.cell? ⟨w.heap.size + 1, 0, none⟩ = some (.int .u32 0) := by simp [World.cell?, hZ2]
  have z1 : w2.cell? ⟨w.heap.size + 1, 1, none⟩ = some (.slice none 0 0) := by simp [World.cell?, hZ2]
  have zf0 : w2.frozen? ⟨w.heap.size + 1, 0, none⟩ = false := by simp [World.frozen?, hZ2]
  have zf1 : w2.frozen? ⟨w.heap.size + 1, 1, none⟩ = false := by simp [World.frozen?, hZ2]
  have HB2 := Lib.hid (HB1.out.trans (hb2.mono HB1.out.size))
  clear hb2 c0 c1 c2 c3 hZ2
  go_wp2_with fail
  refine bodyPost_ret (results_c1t (by rfl) _ (by rfl) (load_out2 z0 z1 Try.underlying63 rfl (by kernel_rfl))) rfl ⟨rfl, ?_⟩
  exact (HB2.out.setCell (p := ⟨w.heap.size + 1, 0, none⟩) (by show w.heap.size ≤ w.heap.size + 1; omega) _).setCell (p := ⟨w.heap.size + 1, 1, none⟩) (by show w.heap.size ≤ w.heap.size + 1; omega) _
end Go.Proofs.Ytlfnddmncbkjaaa.W
