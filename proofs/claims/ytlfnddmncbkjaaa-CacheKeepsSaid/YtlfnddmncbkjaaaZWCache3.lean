/- Package cache: copied, walked. -/
import Derived.OwnWalk
import Derived.Test.YtlfnddmncbkjaaaZWCache2
import Derived.Test.YtlfnddmncbkjaaaZMB
namespace Go.Proofs.Ytlfnddmncbkjaaa.W
set_option linter.unusedVariables false
set_option linter.unusedSimpArgs false
open Go.RowKit Fb
theorem info_block : (Try.prog.info? 63).map (fun i => (i.zero, i.size, i.bytes)) = some (some (.agg #[.int .u32 0, .slice none 0 0]), 2, 32) := by kernel_rfl
set_option maxRecDepth 100000 in
set_option maxHeartbeats 1600000 in
theorem ccopied_any (room : Int) (v : Value) (pu st : Int) (l : List BlkD) (w : World) (hv : Blks w v l) (hins : ∀ x ∈ l, x.ins.length ≤ 3518437208883) (hl : l.length * 32 ≤ 140737488351232) :
    Calls Try.prog 76 #[.agg #[.int .i64 room, v, .int .i64 pu, .int .i64 st]] w fun e w' => (∃ v' ys, e = .returned (.agg #[.int .i64 room, v', .int .i64 pu, .int .i64 st]) ∧ Cp (w.heap.size + 2) 63 54 w' v' ys ∧ ys.map BlkD.abs = l.map BlkD.abs) ∧ Below w.heap.size w w' := by
  obtain ⟨ao, cap, rfl, hc, hm, -, ho⟩ := hv.1.open (fun _ _ => rfl) (by omega)
  unfold maxLen at hm
  obtain ⟨w1, hw1⟩ : ∃ w1, w1 = (w.alloc (.cells #[.int .i64 room, .slice ao l.length cap, .int .i64 pu, .int .i64 st] 60)).alloc (.cells #[.int .i64 0, .slice none 0 0, .int .i64 0, .int .i64 0] 60) := ⟨_, rfl⟩
  have hb1 : Below w.heap.size w w1 := by rw [hw1]; exact (by repeat (first | with_reducible exact Below.refl _ _ | with_reducible refine below_drewN ?_ _ | ((with_reducible refine Below.setCell ?_ ?hq _); case hq => (first | (simp; done) | (simp; omega))) | ((with_reducible refine Below.alloc ?_ ?hq _); case hq => (first | (simp; done) | (simp; omega)))))
  have hs1 : w1.heap.size = w.heap.size + 2 := by rw [hw1]; simp
  have hA : w1.heap[w.heap.size]? = some (.cells #[.int .i64 room, .slice ao l.length cap, .int .i64 pu, .int .i64 st] 60 (0, 0)) := by rw [hw1, heap_alloc_old _ _ (by simp)]; exact heap_alloc_new _ _
  have hZ : w1.heap[w.heap.size + 1]? = some (.cells #[.int .i64 0, .slice none 0 0, .int .i64 0, .int .i64 0] 60 (0, 0)) := by
    have := heap_alloc_new (w.alloc (.cells #[.int .i64 room, .slice ao l.length cap, .int .i64 pu, .int .i64 st] 60)) (.cells #[.int .i64 0, .slice none 0 0, .int .i64 0, .int .i64 0] 60)
    rw [World.size_alloc] at this
    rw [hw1]; exact this
  have HA := Lib.hid hA
  have HZ := Lib.hid hZ
  have HW1 := Lib.hid hw1
  have HB1 := Lib.hid hb1
  have HV := Lib.hid hv
  have HO := Lib.hid ho
  have HL := Lib.hid hl
  have HINS := Lib.hid hins
  have c1 : w1.cell? ⟨w.heap.size, 1, none⟩ = some (.slice ao l.length cap) := by simp [World.cell?, hA]
  have HCL : Hid (∀ x ∈ l, ∀ W, Below w.heap.size w W → _) := Lib.hid (fun x hx W hW => cclone_any x W ((hv.2 x hx).below hW) (hins x hx))
  have HONE : Hid (∀ x ∈ l, ∃ cc ac, x.vi = .slice ac x.ins.length cc) := Lib.hid (fun x hx => by obtain ⟨ac, cc, e, _⟩ := (hv.2 x hx).at_.open (fun _ _ => rfl) (by omega); exact ⟨cc, ac, e⟩)
  have hln : l.length ≤ 4398046510976 := by omega
  obtain ⟨ib, hib, hb0, hb1', hby⟩ := info_parts info_block
  have hne : 63 ≠ 54 := by decide
  clear hw1 hb1 hv ho hins hA hZ hl
  go_enter Try.func76, Try.ntmps76
  go_upto_region 1 with (fail)
  rw [← HW1.out]
  go_wp2_with (first | (refine wpList_make_own _ rfl _ _ 58 rfl (w.heap.size + 2) 63 ib _ 2 Try.underlying58 hib hb0 hb1' .i64 .i64 ((l.length : Int) + 1) (l.length + 1) rfl rfl (by simp) ?_ ?_ ?_ ?_))
  rotate_right
  · intro w2 hown2 hgrow2
    have hb2' : Below (w.heap.size + 2) w1 w2 := by rw [← hs1]; exact (Below.refl _ w1).grown hgrow2 (Nat.le_refl _) (by intro k hk; cases hk)
    have l1 : w.heap.size < w.heap.size + 2 := by omega
    have HA2 : Hid (w2.heap[w.heap.size]? = _) := Lib.hid ((hb2'.block w.heap.size (by omega)).trans HA.out)
    have HZ2 : Hid (w2.heap[w.heap.size + 1]? = _) := Lib.hid ((hb2'.block (w.heap.size + 1) (by omega)).trans HZ.out)
    have d1 : w2.cell? ⟨w.heap.size, 1, none⟩ = some (.slice ao l.length cap) := by simp [World.cell?, HA2.out]
    have HB2 := Lib.hid (HB1.out.trans (hb2'.mono (by omega)))
    have HCP0 : Hid (Cp (w.heap.size + 2) 63 54 w2 (.slice (some ⟨w.heap.size + 2, 0, none⟩) 0 (l.length + 1)) []) := Lib.hid ⟨hown2, fun y hy => (by cases hy), fun y hy => (by cases hy)⟩
    have HB12 := Lib.hid hb2'
    have hs2 : w.heap.size + 2 ≤ w2.heap.size := by have := hb2'.size; omega
    clear hown2 hgrow2 hb2' c1
    go_wp2_with fail
    clear d1
    go_loopw [3, 14] (fun x i wr => ∃ (k : Nat) (ys : List BlkD), i = .int .i64 k ∧ k ≤ l.length ∧ ys.length = k ∧ w.heap.size + 2 ≤ wr.heap.size ∧ Hid (Cp (w.heap.size + 2) 63 54 wr x ys ∧ ys.map BlkD.abs = (l.take k).map BlkD.abs ∧ Below (w.heap.size + 2) w2 wr)) (fun _ i _ => l.length - (intOf i).toNat)
    case atStart => exact ⟨0, [], rfl, by omega, rfl, hs2, Lib.hid ⟨HCP0.out, rfl, Below.refl _ _⟩⟩
    case round =>
      obtain ⟨k, ys, rfl, hk, hyl, hsz, HI⟩ := hrel
      by_cases hlt : k < l.length
      · obtain ⟨b, off, rfl, hbl, hel⟩ := HO.out (by intro e; rw [e] at hlt; simp at hlt)
        have hat := (hel k hlt).of_lt (HB2.out.trans (HI.out.2.2.mono (by omega))) hbl
        obtain ⟨cc, ac, hvi⟩ := HONE.out l[k] (List.getElem_mem hlt)
        have c0 := hat.get (j := 0) (v := .int .u32 l[k].pc) rfl
        have c1 := hat.get (j := 1) (v := l[k].vi) rfl
        simp only [Nat.add_zero] at c0
        rw [hvi] at c1
        have HT : Hid ((l.take (k + 1)).map BlkD.abs = (l.take k).map BlkD.abs ++ [l[k].abs]) := Lib.hid (by rw [List.take_succ_eq_append_getElem hlt, List.map_append]; rfl)
        have HCK := Lib.hid (HCL.out l[k] (List.getElem_mem hlt))
        clear hel hat
        obtain ⟨x, hx⟩ : ∃ x, x = l[k] := ⟨_, rfl⟩
        rw [← hx] at c0 c1 hvi HT HCK
        clear hx
        obtain ⟨w3, hw3⟩ : ∃ w3, w3 = wr.alloc (.cells #[.int .u32 x.pc, .slice ac x.ins.length cc] 63) := ⟨_, rfl⟩
        have hb3 : Below wr.heap.size wr w3 := by rw [hw3]; exact (by repeat (first | with_reducible exact Below.refl _ _ | with_reducible refine below_drewN ?_ _ | ((with_reducible refine Below.setCell ?_ ?hq _); case hq => (first | (simp; done) | (simp; omega))) | ((with_reducible refine Below.alloc ?_ ?hq _); case hq => (first | (simp; done) | (simp; omega)))))
        have e0 : (w3).cell? ⟨wr.heap.size, 0, none⟩ = some (.int .u32 x.pc) := by rw [hw3]; go_cell
        have e1 : (w3).cell? ⟨wr.heap.size, 1, none⟩ = some (.slice ac x.ins.length cc) := by rw [hw3]; go_cell
        have hbb : Below w.heap.size w w3 := (HB2.out.trans (HI.out.2.2.mono (by omega))).trans (hb3.mono (by omega))
        have HC3 := Lib.hid (HCK.out w3 hbb)
        rw [hvi] at HC3
        have HCP3 := Lib.hid (HI.out.1.below hb3)
        have HB3 := Lib.hid (HI.out.2.2.trans (hb3.mono hsz))
        have hs3 := hb3.size
        have HW3 := Lib.hid hw3
        clear hw3 hb3 hbb HCK
        go_upto_region 5 with (fail)
        rw [← HW3.out]
        clear c0 c1
        go_wp2_with fail
        refine HC3.out.mono ?_
        rintro e w4 ⟨⟨y, rfl, hy1, hy2, hy3, hy4⟩, hb4⟩
        obtain ⟨ay, cy, hyv, -⟩ := hy3.at_.open (fun _ _ => rfl) (by omega)
        have hpc := hy3.pc
        have hrow := owns_mono hy4 (B' := w.heap.size + 2) (by omega)
        rw [hyv]
        have hs4 := hb4.size
        have HCP4 := Lib.hid (HCP3.out.below hb4)
        have HB4 := Lib.hid (HB3.out.trans (hb4.mono (by omega)))
        have HROW := Lib.hid hrow
        have HPC := Lib.hid hpc
        have HYV := Lib.hid hyv
        have HABS : Hid (y.abs = x.abs) := Lib.hid (by unfold BlkD.abs; rw [hy1, hy2])
        have hyl2 : ys.length ≤ 4398046510976 := by omega
        have hal : ∀ W, Below W.heap.size W (W.alloc (.cells #[.int .u32 y.pc, .slice ay y.ins.length cy] 63)) := fun W => Below.alloc (Below.refl _ _) (Nat.le_refl _) _
        have HSRC : Hid (Sl (w4.alloc (.cells #[.int .u32 y.pc, .slice ay y.ins.length cy] 63)) (.slice (some ⟨w4.heap.size, 0, none⟩) 1 1) 2 1 (blist y)) := Lib.hid (by
          have := at_new2 w4 (.int .u32 y.pc) (.slice ay y.ins.length cy) 63
          unfold blist; rw [hyv]; exact this)
        clear hb4 hy1 hy2 hy3 hy4 hyv hpc hrow e0 e1
        go_wp2_with (first | (at_builtin; refine append_any rfl _ _ 58 rfl (w.heap.size + 2) 63 ib _ 2 32 Try.underlying58 hib hb0 hb1' hby rfl (by decide) u3 ys.length (ys.flatMap blist) rfl (owns_below HCP4.out.own (hal _)) (.slice (some ⟨w4.heap.size, 0, none⟩) 1 1) 1 (blist y) rfl HSRC.out (blk1_one HROW.out) ?_ ?_ ?_ ?_))
        rotate_right
        · intro v5 w5 hown5 hgrow5
          have hown5 : w5.ownsRow (w.heap.size + 2) 63 2 v5 (ys.length + 1) (ys.flatMap blist ++ blist y) := by rw [hyl]; exact hown5
          have hcp5 := Cp.snoc hne (HCP4.out.below (hal _)) HPC.out (owns_below HROW.out (hal _)) hown5 hgrow5
          have hb5 : Below (w.heap.size + 2) w2 w5 := ((HB4.out.trans ((hal w4).mono (by omega))).grown hgrow5 (by simp; omega) (fun g e => (HCP4.out.own.lt g e).1))
          have hs5 : w4.heap.size ≤ w5.heap.size := by have := hgrow5.size; simp at this; omega
          have HCP5 := Lib.hid hcp5
          have HB5 := Lib.hid hb5
          clear hcp5 hb5 hown5 hgrow5
          go_wp2_with fail
          exact ⟨⟨k + 1, ys ++ [y], by simp, by omega, by simp [hyl], by omega, Lib.hid ⟨HCP5.out, by rw [List.map_append, HI.out.2.1, HT.out, List.map_cons, List.map_nil, HABS.out], HB5.out⟩⟩, by simp [intOf]; omega⟩
        all_goals first
          | (unfold maxLen; omega)
          | (simp; omega)
          | omega
      · obtain rfl : k = l.length := by omega
        have HYL := Lib.hid hyl
        clear hyl
        have hA3 := (HI.out.2.2.block w.heap.size (by omega)).trans HA2.out
        have hZ3 := (HI.out.2.2.block (w.heap.size + 1) (by omega)).trans HZ2.out
        obtain ⟨ax, cx, rfl⟩ := owns_slice HI.out.1.own
        have a0 : (wr).cell? ⟨w.heap.size, 0, none⟩ = some (.int .i64 room) := by simp [World.cell?, hA3]
        have a1 : (wr).cell? ⟨w.heap.size, 1, none⟩ = some (.slice ao l.length cap) := by simp [World.cell?, hA3]
        have a2 : (wr).cell? ⟨w.heap.size, 2, none⟩ = some (.int .i64 pu) := by simp [World.cell?, hA3]
        have a3 : (wr).cell? ⟨w.heap.size, 3, none⟩ = some (.int .i64 st) := by simp [World.cell?, hA3]
        have z0 : (wr).cell? ⟨w.heap.size + 1, 0, none⟩ = some (.int .i64 0) := by simp [World.cell?, hZ3]
        have z1 : (wr).cell? ⟨w.heap.size + 1, 1, none⟩ = some (.slice none 0 0) := by simp [World.cell?, hZ3]
        have z2 : (wr).cell? ⟨w.heap.size + 1, 2, none⟩ = some (.int .i64 0) := by simp [World.cell?, hZ3]
        have z3 : (wr).cell? ⟨w.heap.size + 1, 3, none⟩ = some (.int .i64 0) := by simp [World.cell?, hZ3]
        have af : wr.frozen? ⟨w.heap.size, 1, none⟩ = false := by simp [World.frozen?, hA3]
        have zf : ∀ o, wr.frozen? ⟨w.heap.size + 1, o, none⟩ = false := fun o => by simp [World.frozen?, hZ3]
        have ht : wr.there (w.heap.size + 1) 0 4 := there_blk hZ3 rfl
        have HT4 := Lib.hid ht
        clear hA3 hZ3 ht
        go_upto_region 8 with (fail)
        obtain ⟨w6, hw6⟩ : ∃ w6, w6 = wr.setCell ⟨w.heap.size, 1, none⟩ (.slice ax ys.length cx) := ⟨_, rfl⟩
        rw [← hw6]
        have q0 : w6.cell? ⟨w.heap.size, 0, none⟩ = some (.int .i64 room) := by rw [hw6]; exact (World.cell?_setCell_other _ _ _ _ (by intro e; injection e with _ e2; omega)).trans a0
        have q1 : w6.cell? ⟨w.heap.size, 1, none⟩ = some (.slice ax ys.length cx) := by rw [hw6]; exact World.cell?_setCell_same _ _ _ a1
        have q2 : w6.cell? ⟨w.heap.size, 2, none⟩ = some (.int .i64 pu) := by rw [hw6]; exact (World.cell?_setCell_other _ _ _ _ (by intro e; injection e with _ e2; omega)).trans a2
        have q3 : w6.cell? ⟨w.heap.size, 3, none⟩ = some (.int .i64 st) := by rw [hw6]; exact (World.cell?_setCell_other _ _ _ _ (by intro e; injection e with _ e2; omega)).trans a3
        have ht6 : w6.there (w.heap.size + 1) 0 (#[.int .i64 room, .slice ax ys.length cx, .int .i64 pu, .int .i64 st] : Array Value).size := by
          rw [hw6]; exact there_block HT4.out (Below.heap_setCell _ _ _ _ (by show w.heap.size + 1 ≠ w.heap.size; omega))
        have hsz6 : (Try.prog.info? 60).map (·.size) = some (#[.int .i64 room, .slice ax ys.length cx, .int .i64 pu, .int .i64 st] : Array Value).size := by show _ = some 4; kernel_rfl
        have hall : (#[.int .i64 room, .slice ax ys.length cx, .int .i64 pu, .int .i64 st] : Array Value).all (·.oneCell') = true := by simp [Value.oneCell']
        have hld := load_setCells (P := Try.prog) ht6 Try.underlying60 rfl hsz6
        have HCP6 : Hid (Cp (w.heap.size + 2) 63 54 w6 (.slice ax ys.length cx) ys) := Lib.hid (by rw [hw6]; exact HI.out.1.set (by show w.heap.size < w.heap.size + 2; omega) _)
        have HB6 : Hid (Below w.heap.size w w6) := Lib.hid (by rw [hw6]; exact (HB2.out.trans (HI.out.2.2.mono (by omega))).setCell (p := ⟨w.heap.size, 1, none⟩) (Nat.le_refl _) _)
        clear hw6 a0 a1 a2 a3 z0 z1 z2 z3 af zf
        go_wp2_with (first | (refine wpList_store_mid rfl 60 _ _ rfl (w.heap.size + 1) 0 #[.int .i64 room, .slice ax ys.length cx, .int .i64 pu, .int .i64 st] rfl rfl ht6 hsz6 hall ?_))
        refine bodyPost_ret (results_c1 (by rfl) _ (by rfl) hld) rfl ⟨⟨_, rfl, ys, HCP6.out.sets (by omega) _ _, by rw [HI.out.2.1, List.take_length]⟩, below_setCells (by omega) _ _ _ HB6.out⟩
  all_goals first
    | (unfold maxLen; omega)
    | (rw [hby]; omega)
    | omega
end Go.Proofs.Ytlfnddmncbkjaaa.W
