/- ferrybridgeref9.Put, walked. -/
import Derived.Test.YtlfnddmncbkjaaaZWRef9b
import Derived.Test.YtlfnddmncbkjaaaZMB
namespace Go.Proofs.Ytlfnddmncbkjaaa.W
set_option linter.unusedVariables false
set_option linter.unusedSimpArgs false
open Go.RowKit Fb
set_option maxRecDepth 100000 in
set_option maxHeartbeats 1600000 in
theorem put9_any (room : Int) (v : Value) (pu st : Int) (l : List BlkD) (y : BlkD) (w : World) (hr : i64ok room) (hpu : i64ok pu) (hv : Blks w v l) (hy : BlkOk w y) (hl : l.length * 32 ≤ 140737488351232) :
    Calls Try.prog 39 #[.agg #[.int .i64 room, v, .int .i64 pu, .int .i64 st], .agg #[.int .u32 y.pc, y.vi]] w fun e w' => (∃ v', e = .returned (.agg #[.int .i64 room, v', .int .i64 (putP room pu l y), .int .i64 st]) ∧ Blks w' v' (putL room l y)) ∧ Below w.heap.size w w' := by
  obtain ⟨ao, cap, rfl, hc, hm, -, ho⟩ := hv.1.open (fun _ _ => rfl) (by omega)
  unfold maxLen at hm
  obtain ⟨ay, cy, hyv, -⟩ := hy.at_.open (fun _ _ => rfl) (by omega)
  have hyb : ∀ u ∈ blist y, u.oneCell' = true := blist_one hy
  rw [hyv]
  obtain ⟨w1, hw1⟩ : ∃ w1, w1 = (((w.alloc (.cells #[.int .i64 room, .slice ao l.length cap, .int .i64 pu, .int .i64 st] 60)).alloc (.cells #[.int .u32 y.pc, .slice ay y.ins.length cy] 63)).alloc (.cells #[.int .i64 0, .slice none 0 0, .int .i64 0, .int .i64 0] 60)).alloc (.cells #[.int .i64 room, .slice none 0 0, .int .i64 pu, .int .i64 st] 60) := ⟨_, rfl⟩
  have hb1 : Below w.heap.size w w1 := by rw [hw1]; exact (by repeat (first | with_reducible exact Below.refl _ _ | with_reducible refine below_drewN ?_ _ | ((with_reducible refine Below.setCell ?_ ?hq _); case hq => (first | (simp; done) | (simp; omega))) | ((with_reducible refine Below.alloc ?_ ?hq _); case hq => (first | (simp; done) | (simp; omega)))))
  have hs1 : w1.heap.size = w.heap.size + 4 := by rw [hw1]; simp
  have c0 : (w1).cell? ⟨w.heap.size, 0, none⟩ = some (.int .i64 room) := by rw [hw1]; go_cell
  have c1 : (w1).cell? ⟨w.heap.size, 1, none⟩ = some (.slice ao l.length cap) := by rw [hw1]; go_cell
  have c2 : (w1).cell? ⟨w.heap.size, 2, none⟩ = some (.int .i64 pu) := by rw [hw1]; go_cell
  have c3 : (w1).cell? ⟨w.heap.size, 3, none⟩ = some (.int .i64 st) := by rw [hw1]; go_cell
  have r0 : (w1).cell? ⟨w.heap.size + 1, 0, none⟩ = some (.int .u32 y.pc) := by rw [hw1]; go_cell
  have r1 : (w1).cell? ⟨w.heap.size + 1, 1, none⟩ = some (.slice ay y.ins.length cy) := by rw [hw1]; go_cell
  have o0 : (w1).cell? ⟨w.heap.size + 1 + 1 + 1, 0, none⟩ = some (.int .i64 room) := by rw [hw1]; go_cell
  have o1 : (w1).cell? ⟨w.heap.size + 1 + 1 + 1, 1, none⟩ = some (.slice none 0 0) := by rw [hw1]; go_cell
  have o2 : (w1).cell? ⟨w.heap.size + 1 + 1 + 1, 2, none⟩ = some (.int .i64 pu) := by rw [hw1]; go_cell
  have o3 : (w1).cell? ⟨w.heap.size + 1 + 1 + 1, 3, none⟩ = some (.int .i64 st) := by rw [hw1]; go_cell
  have hZ : w1.heap[w.heap.size + 1 + 1]? = some (.cells #[.int .i64 0, .slice none 0 0, .int .i64 0, .int .i64 0] 60 (0, 0)) := by
    have := heap_alloc_new ((w.alloc (.cells #[.int .i64 room, .slice ao l.length cap, .int .i64 pu, .int .i64 st] 60)).alloc (.cells #[.int .u32 y.pc, .slice ay y.ins.length cy] 63)) (.cells #[.int .i64 0, .slice none 0 0, .int .i64 0, .int .i64 0] 60)
    rw [World.size_alloc, World.size_alloc] at this
    rw [hw1, heap_alloc_old _ _ (by simp)]; exact this
  have hfo : ∀ o, w1.frozen? ⟨w.heap.size + 1 + 1 + 1, o, none⟩ = false := fun o => by
    have := heap_alloc_new (((w.alloc (.cells #[.int .i64 room, .slice ao l.length cap, .int .i64 pu, .int .i64 st] 60)).alloc (.cells #[.int .u32 y.pc, .slice ay y.ins.length cy] 63)).alloc (.cells #[.int .i64 0, .slice none 0 0, .int .i64 0, .int .i64 0] 60)) (.cells #[.int .i64 room, .slice none 0 0, .int .i64 pu, .int .i64 st] 60)
    rw [World.size_alloc, World.size_alloc, World.size_alloc] at this
    rw [hw1]; unfold World.frozen?; rw [this]; simp
  have HO9 : Hid (O9 (w.heap.size + 1 + 1 + 1) 63 room pu st (.slice none 0 0) w1 w1 []) := Lib.hid ⟨o0, o1, o2, o3, hfo, World.ownsRow_nil _ _ _ _, Below.refl _ _⟩
  have HPL := Lib.hid (place9_any (.slice ao l.length cap) l y.pc w1 (hv.1.below hb1))
  have HCR := Lib.hid (And.intro c0 (And.intro c1 (And.intro r0 (And.intro r1 hZ))))
  have HV := Lib.hid hv
  have HY := Lib.hid hy
  have HO := Lib.hid ho
  have HW1 := Lib.hid hw1
  have HB1 := Lib.hid hb1
  have hln : l.length ≤ 4398046510976 := by omega
  obtain ⟨ib, hib, hib0, hib1, hib2⟩ := info_parts (show (Try.prog.info? 63).map (fun i => (i.zero, i.size, i.bytes)) = some (some (.agg #[.int .u32 0, .slice none 0 0]), 2, 32) by kernel_rfl)
  obtain ⟨q, hq⟩ : ∃ q, q = placeI l y.pc := ⟨_, rfl⟩
  rw [← hq] at HPL
  obtain ⟨zl, hzl⟩ : ∃ z, z = putL room l y := ⟨_, rfl⟩
  obtain ⟨zp, hzp⟩ : ∃ z, z = putP room pu l y := ⟨_, rfl⟩
  rw [← hzl, ← hzp]
  have HZ : Hid (zl = (if room < ((dq q l ++ [y]).length : Int) then (dq q l ++ [y]).drop 1 else dq q l ++ [y]) ∧ zp = (if room < ((dq q l ++ [y]).length : Int) then wrap64 (pu + 1) else pu)) := Lib.hid (by rw [hzl, hzp, hq]; exact ⟨rfl, rfl⟩)
  have HYV := Lib.hid hyv
  have HYB := Lib.hid hyb
  clear hw1 hb1 hv ho hl hZ hfo o0 o1 o2 o3 hq hzl hzp hy hyv hyb
  go_enter Try.func39, Try.ntmps39
  go_upto_region 2 with (fail)
  rw [← HW1.out]
  go_wp2_with fail
  refine HPL.out.mono ?_
  rintro e w2 ⟨rfl, hw2⟩
  rw [hw2]
  clear hw2 w2
  clear c0 c1 c2 c3 r0 r1
  go_wp2_with fail
  go_loopw [7] (fun i wr => ∃ (k : Nat) (ks : List BlkD) (vo : Value), i = .int .i64 k ∧ k ≤ l.length ∧ ks.length ≤ k ∧ Hid (O9 (w.heap.size + 1 + 1 + 1) 63 room pu st vo w1 wr ks ∧ ks = dq q (l.take k))) (fun i _ => l.length - (intOf i).toNat)
  case atStart => exact ⟨0, [], _, rfl, by omega, by simp, Lib.hid ⟨HO9.out, by simp [dq_nil]⟩⟩
  case round =>
    obtain ⟨k, ks, vo, rfl, hk, hkl, HI⟩ := hrel
    have hob := HI.out.1.lt
    have hsr : w1.heap.size ≤ wr.heap.size := HI.out.1.bel.size
    have HBR : Hid (Below (w.heap.size + 1 + 1 + 1) w1 wr) := Lib.hid HI.out.1.bel
    have c0 := (HBR.out.cell (p := ⟨w.heap.size, 0, none⟩) (by show w.heap.size < _; omega)).trans HCR.out.1
    have c1 := (HBR.out.cell (p := ⟨w.heap.size, 1, none⟩) (by show w.heap.size < _; omega)).trans HCR.out.2.1
    have r0 := (HBR.out.cell (p := ⟨w.heap.size + 1, 0, none⟩) (by show w.heap.size + 1 < _; omega)).trans HCR.out.2.2.1
    have r1 := (HBR.out.cell (p := ⟨w.heap.size + 1, 1, none⟩) (by show w.heap.size + 1 < _; omega)).trans HCR.out.2.2.2.1
    have HO9r : Hid (O9 (w.heap.size + 1 + 1 + 1) 63 room pu st vo w1 wr ks) := Lib.hid HI.out.1
    have HKS := Lib.hid HI.out.2
    have hksl : ks.length ≤ 4398046510976 := by omega
    by_cases hlt : k < l.length
    · obtain ⟨b, off, rfl, hbl, hel⟩ := HO.out (by intro e; rw [e] at hlt; simp at hlt)
      obtain ⟨x, hx⟩ : ∃ x, x = l[k] := ⟨_, rfl⟩
      have hxm : x ∈ l := by rw [hx]; exact List.getElem_mem hlt
      have hxo := HV.out.2 x hxm
      obtain ⟨ac, cc, hvi, -⟩ := hxo.at_.open (fun _ _ => rfl) (by omega)
      have HBW : Hid (∀ W, Below wr.heap.size wr W → Below w.heap.size w W) := Lib.hid (fun W hW => (HB1.out.trans (HBR.out.mono (by omega))).trans (hW.mono (by omega)))
      have hat6 : At wr b (off + k * 2) (blist x) := by rw [hx]; exact (hel k hlt).of_lt (HBW.out wr (Below.refl _ _)) hbl
      have y0 := hat6.get (j := 0) (v := .int .u32 x.pc) rfl
      have y1 := hat6.get (j := 1) (v := x.vi) rfl
      simp only [Nat.add_zero] at y0
      rw [hvi] at y1
      have hal : Below wr.heap.size wr (wr.alloc (.cells #[.int .u32 x.pc, .slice ac x.ins.length cc] 63)) := Below.alloc (Below.refl _ _) (Nat.le_refl _) _
      have ca1 := (hal.cell (p := ⟨w.heap.size, 1, none⟩) (by show w.heap.size < _; omega)).trans c1
      have i0 : (0 : Int) ≤ (k : Int) := by omega
      have i1 : (k : Int) < (l.length : Int) := by omega
      have HVI := Lib.hid hvi
      have HONE : Hid (∀ u ∈ blist x, u.oneCell' = true) := Lib.hid (blist_one hxo)
      by_cases hkq : (k : Int) = q
      · have HTS : Hid (dq q (l.take (k + 1)) = ks) := Lib.hid (by rw [dq_skip hlt hkq, ← HI.out.2])
        have hkt : ((k : Int) != q) = false := by simp [hkq]
        have HKQ := Lib.hid hkq
        clear hel hx hxm hxo HI r0 r1 hvi hat6 y0 y1 hkq hal ca1
        go_wp2_with fail
        go_roundw
        case rel => exact ⟨k + 1, ks, vo, by simp, by omega, by omega, Lib.hid ⟨HO9r.out, HTS.out.symm⟩⟩
        case measure => simp [intOf]; omega
      · have HTS : Hid (dq q (l.take (k + 1)) = ks ++ [x]) := Lib.hid (by rw [dq_keep hlt hkq, ← HI.out.2, hx])
        have hkt : ((k : Int) != q) = true := by simp [hkq]
        have HKQ := Lib.hid hkq
        have hln2 : ks.length + 1 ≤ l.length := by omega
        clear hel hx hxm hxo HI r0 r1 hvi hat6 hkq hal
        have o1 := HO9r.out.c1
        have of1 := HO9r.out.frz 1
        have hfar : Hid (vo.ownBlock ≠ some (w.heap.size + 1 + 1 + 1)) := Lib.hid (fun e => by have := (HO9r.out.own.lt _ e).1; omega)
        have hob6 : Hid (w.heap.size + 1 + 1 + 1 < wr.heap.size) := Lib.hid (HO9r.out.lt)
        have HOWN : Hid (∀ W, Below wr.heap.size wr W → O9 (w.heap.size + 1 + 1 + 1) 63 room pu st vo w1 W ks) := Lib.hid (fun W hW => HO9r.out.below hW)
        have HB1L : Hid (blist x = [.int .u32 x.pc, .slice ac x.ins.length cc]) := Lib.hid (by unfold blist; rw [HVI.out])
        rw [HB1L.out] at HONE
        have HFIN : Hid (∀ W v7 W7, Below wr.heap.size wr W → W7.ownsRow (w.heap.size + 1 + 1 + 1 + 1) 63 2 v7 (ks.length + 1) (ks.flatMap blist ++ [.int .u32 x.pc, .slice ac x.ins.length cc]) → World.grownBy W W7 vo.ownBlock → O9 (w.heap.size + 1 + 1 + 1) 63 room pu st v7 w1 (World.setCell W7 ⟨w.heap.size + 1 + 1 + 1, 1, none⟩ v7) (ks ++ [x])) := Lib.hid (fun W v7 W7 hW ho hg => (HOWN.out W hW).next (by rw [HB1L.out]; exact ho) hg)
        have hal : Below wr.heap.size wr (wr.alloc (.cells #[.int .u32 x.pc, .slice ac x.ins.length cc] 63)) := Below.alloc (Below.refl _ _) (Nat.le_refl _) _
        have oa1 : (wr.alloc (.cells #[.int .u32 x.pc, .slice ac x.ins.length cc] 63)).cell? ⟨w.heap.size + 1 + 1 + 1, 1, none⟩ = some vo := (HOWN.out _ hal).c1
        have HE1 := Lib.hid oa1
        have HE2 : Hid ((wr.alloc (.cells #[.int .u32 x.pc, .slice ac x.ins.length cc] 63)).frozen? ⟨w.heap.size + 1 + 1 + 1, 1, none⟩ = false) := Lib.hid ((HOWN.out _ hal).frz 1)
        have HSL7 : Hid (Sl (wr.alloc (.cells #[.int .u32 x.pc, .slice ac x.ins.length cc] 63)).drew (.slice (some ⟨wr.heap.size, 0, none⟩) 1 1) 2 1 [.int .u32 x.pc, .slice ac x.ins.length cc]) := Lib.hid (Sl.below (at_new2 _ _ _ _) (Below.drew (Below.refl _ _)))
        clear hal
        go_upto_region 7 with (fail)
        go_region_law (
          refine step_append_any (by rfl) _ _ _ (by rfl) (w.heap.size + 1 + 1 + 1 + 1) 63 ib _ 2 32 Try.underlying58 hib hib0 hib1 hib2 rfl (by omega) vo ks.length _ (by rfl) (HOWN.out _ (by with_reducible first | exact Below.drew (Below.alloc (Below.refl _ _) (Nat.le_refl _) _) | exact Below.alloc (Below.drew (Below.refl _ _)) (Nat.le_refl _) _ | exact Below.alloc (Below.refl _ _) (Nat.le_refl _) _)).own
                    (.slice (some ⟨wr.heap.size, 0, none⟩) 1 1) 1 [.int .u32 x.pc, .slice ac x.ins.length cc] (by rfl) ?k1 HONE.out (by omega) (by unfold maxLen; omega) ?k2 ?_
          case k1 => exact HSL7.out
          case k2 => have := hob6.out; show _ ≤ (World.alloc _ _).heap.size; simp; omega
          intro v7 w7 hown7 hgrow7
          obtain ⟨a7, c7, rfl⟩ := owns_slice hown7
          have e1 : w7.cell? ⟨w.heap.size + 1 + 1 + 1, 1, none⟩ = some vo := (hgrow7.cell_far ⟨w.heap.size + 1 + 1 + 1, 1, none⟩ (by have := hob6.out; show _ < (World.alloc _ _).heap.size; simp; omega) hfar.out.symm).trans HE1.out
          have e2 : w7.frozen? ⟨w.heap.size + 1 + 1 + 1, 1, none⟩ = false := (hgrow7.frozen_far ⟨w.heap.size + 1 + 1 + 1, 1, none⟩ (by have := hob6.out; show _ < (World.alloc _ _).heap.size; simp; omega) hfar.out.symm).trans HE2.out
          have HO7 := Lib.hid hown7
          have HG7 := Lib.hid hgrow7
          clear hown7 hgrow7)
        all_goals
          go_wp2_with fail
          try go_roundw
          case rel =>
            exact ⟨k + 1, ks ++ [x], _, by simp, by omega, by simp; omega, Lib.hid ⟨HFIN.out _ _ _ (Below.drew (Below.alloc (Below.refl _ _) (Nat.le_refl _) _)) HO7.out HG7.out, HTS.out.symm⟩⟩
          case measure => simp [intOf]; omega
    · obtain rfl : k = l.length := by omega
      rw [List.take_length] at HKS
      rw [← HKS.out] at HZ
      have hal : Below wr.heap.size wr (wr.alloc (.cells #[.int .u32 y.pc, .slice ay y.ins.length cy] 63)) := Below.alloc (Below.refl _ _) (Nat.le_refl _) _
      have ca0 := (hal.cell (p := ⟨w.heap.size + 1, 0, none⟩) (by show w.heap.size + 1 < _; omega)).trans r0
      have ca1 := (hal.cell (p := ⟨w.heap.size + 1, 1, none⟩) (by show w.heap.size + 1 < _; omega)).trans r1
      have HVI := HYV
      have HONE := HYB
      have HR0 := Lib.hid (HBR.out.cell (p := ⟨w.heap.size, 0, none⟩) (by show w.heap.size < _; omega))
      clear hal HI
      have o1 := HO9r.out.c1
      have of1 := HO9r.out.frz 1
      have hfar : Hid (vo.ownBlock ≠ some (w.heap.size + 1 + 1 + 1)) := Lib.hid (fun e => by have := (HO9r.out.own.lt _ e).1; omega)
      have hob6 : Hid (w.heap.size + 1 + 1 + 1 < wr.heap.size) := Lib.hid (HO9r.out.lt)
      have HOWN : Hid (∀ W, Below wr.heap.size wr W → O9 (w.heap.size + 1 + 1 + 1) 63 room pu st vo w1 W ks) := Lib.hid (fun W hW => HO9r.out.below hW)
      have HB1L : Hid (blist y = [.int .u32 y.pc, .slice ay y.ins.length cy]) := Lib.hid (by unfold blist; rw [HVI.out])
      rw [HB1L.out] at HONE
      have HFIN : Hid (∀ W v7 W7, Below wr.heap.size wr W → W7.ownsRow (w.heap.size + 1 + 1 + 1 + 1) 63 2 v7 (ks.length + 1) (ks.flatMap blist ++ [.int .u32 y.pc, .slice ay y.ins.length cy]) → World.grownBy W W7 vo.ownBlock → O9 (w.heap.size + 1 + 1 + 1) 63 room pu st v7 w1 (World.setCell W7 ⟨w.heap.size + 1 + 1 + 1, 1, none⟩ v7) (ks ++ [y])) := Lib.hid (fun W v7 W7 hW ho hg => (HOWN.out W hW).next (by rw [HB1L.out]; exact ho) hg)
      have hal : Below wr.heap.size wr (wr.alloc (.cells #[.int .u32 y.pc, .slice ay y.ins.length cy] 63)) := Below.alloc (Below.refl _ _) (Nat.le_refl _) _
      have oa1 : (wr.alloc (.cells #[.int .u32 y.pc, .slice ay y.ins.length cy] 63)).cell? ⟨w.heap.size + 1 + 1 + 1, 1, none⟩ = some vo := (HOWN.out _ hal).c1
      have HE1 := Lib.hid oa1
      have HE2 : Hid ((wr.alloc (.cells #[.int .u32 y.pc, .slice ay y.ins.length cy] 63)).frozen? ⟨w.heap.size + 1 + 1 + 1, 1, none⟩ = false) := Lib.hid ((HOWN.out _ hal).frz 1)
      have HSL7 : Hid (Sl (wr.alloc (.cells #[.int .u32 y.pc, .slice ay y.ins.length cy] 63)).drew (.slice (some ⟨wr.heap.size, 0, none⟩) 1 1) 2 1 [.int .u32 y.pc, .slice ay y.ins.length cy]) := Lib.hid (Sl.below (at_new2 _ _ _ _) (Below.drew (Below.refl _ _)))
      clear hal
      have HAL : Hid (Below wr.heap.size wr (wr.alloc (.cells #[.int .u32 y.pc, .slice ay y.ins.length cy] 63))) := Lib.hid (Below.alloc (Below.refl _ _) (Nat.le_refl _) _)
      have HSL8 : Hid (Sl (wr.alloc (.cells #[.int .u32 y.pc, .slice ay y.ins.length cy] 63)) (.slice (some ⟨wr.heap.size, 0, none⟩) 1 1) 2 1 [.int .u32 y.pc, .slice ay y.ins.length cy]) := Lib.hid (at_new2 _ _ _ _)
      clear ca0 ca1 oa1
      go_wp2_with (first | (at_builtin; refine append_any rfl _ _ 58 rfl (w.heap.size + 1 + 1 + 1 + 1) 63 ib _ 2 32 Try.underlying58 hib hib0 hib1 hib2 rfl (by decide) vo ks.length (ks.flatMap blist) rfl (HOWN.out _ HAL.out).own (.slice (some ⟨wr.heap.size, 0, none⟩) 1 1) 1 [.int .u32 y.pc, .slice ay y.ins.length cy] rfl HSL8.out HONE.out ?_ ?_ ?_ ?_))
      rotate_right
      · intro v7 w7 hown7 hgrow7
        obtain ⟨a7, c7, rfl⟩ := owns_slice hown7
        have e1 : w7.cell? ⟨w.heap.size + 1 + 1 + 1, 1, none⟩ = some vo := (hgrow7.cell_far ⟨w.heap.size + 1 + 1 + 1, 1, none⟩ (by have := hob6.out; show _ < (World.alloc _ _).heap.size; simp; omega) hfar.out.symm).trans HE1.out
        have e2 : w7.frozen? ⟨w.heap.size + 1 + 1 + 1, 1, none⟩ = false := (hgrow7.frozen_far ⟨w.heap.size + 1 + 1 + 1, 1, none⟩ (by have := hob6.out; show _ < (World.alloc _ _).heap.size; simp; omega) hfar.out.symm).trans HE2.out
        have HN := Lib.hid (HFIN.out _ _ _ HAL.out hown7 hgrow7)
        obtain ⟨w8, hw8⟩ : ∃ w8, w8 = w7.setCell ⟨w.heap.size + 1 + 1 + 1, 1, none⟩ (.slice a7 (ks.length + 1) c7) := ⟨_, rfl⟩
        have HW8 := Lib.hid hw8
        rw [← hw8] at HN
        clear hw8 hown7 hgrow7 HFIN HSL7 HSL8 HE1 HE2 o1 of1 HOWN hfar hob6 c0 c1 r0 r1
        go_upto_region 9 with (fail)
        rw [← HW8.out]
        clear e1 e2
        have HBR8 : Hid (Below (w.heap.size + 1 + 1 + 1) w1 w8) := Lib.hid HN.out.bel
        have c0 := (HBR8.out.cell (p := ⟨w.heap.size, 0, none⟩) (by show w.heap.size < _; omega)).trans HCR.out.1
        have d1 := HN.out.c1
        have d2 := HN.out.c2
        have f1 := HN.out.frz 1
        have f2 := HN.out.frz 2
        have htz : w8.there (w.heap.size + 1 + 1) 0 4 := there_blk ((HBR8.out.block _ (by omega)).trans HCR.out.2.2.2.2) rfl
        have hll : ((ks ++ [y]).length : Int) = ((ks.length + 1 : Nat) : Int) := by simp
        rw [hll] at HZ
        by_cases hgt : room < ((ks.length + 1 : Nat) : Int)
        · have HZ1 : Hid (zl = (ks ++ [y]).drop 1 ∧ zp = wrap64 (pu + 1)) := Lib.hid (by have := HZ.out; rw [if_pos hgt, if_pos hgt] at this; exact this)
          have hgt2 : room < (ks.length : Int) + 1 := by omega
          obtain ⟨g, hga, hcl, hcm⟩ : ∃ g, a7 = some ⟨g, 0, none⟩ ∧ ks.length + 1 ≤ c7 ∧ c7 ≤ maxLen := by
            have hno := HN.out.own
            rw [show (ks ++ [y]).length = ks.length + 1 by simp] at hno
            rcases owns_open hno with ⟨e, _⟩ | ⟨g, cap', e, _, _, h1, h2, _⟩
            · cases e
            · cases e; exact ⟨g, rfl, h1, h2⟩
          subst hga
          unfold maxLen at hcm
          obtain ⟨pn, hpn⟩ : ∃ p, p = wrap64 (pu + 1) := ⟨_, rfl⟩
          have HPN := Lib.hid hpn
          clear hpn
          have j0 : (1 : Int) ≤ (ks.length : Int) + 1 := by omega
          have j1 : (ks.length : Int) + 1 ≤ (c7 : Int) := by omega
          have j2 : (1 : Int) ≤ (c7 : Int) := by omega
          by_cases hc1 : c7 = 1
          · have hk0 : ks = [] := List.eq_nil_of_length_eq_zero (by omega)
            subst hc1
            obtain ⟨w9, hw9⟩ : ∃ w9, w9 = (w8.setCell ⟨w.heap.size + 1 + 1 + 1, 1, none⟩ (.slice (some ⟨g, 0, none⟩) 0 0)).setCell ⟨w.heap.size + 1 + 1 + 1, 2, none⟩ (.int .i64 pn) := ⟨_, rfl⟩
            have q0 : w9.cell? ⟨w.heap.size + 1 + 1 + 1, 0, none⟩ = some (.int .i64 room) := by rw [hw9]; exact (World.cell?_setCell_other _ _ _ _ (by intro e; injection e with _ e2; omega)).trans ((World.cell?_setCell_other _ _ _ _ (by intro e; injection e with _ e2; omega)).trans HN.out.c0)
            have q1 : w9.cell? ⟨w.heap.size + 1 + 1 + 1, 1, none⟩ = some (.slice (some ⟨g, 0, none⟩) 0 0) := by rw [hw9]; exact (World.cell?_setCell_other _ _ _ _ (by intro e; injection e with _ e2; omega)).trans (World.cell?_setCell_same _ _ _ HN.out.c1)
            have q2 : w9.cell? ⟨w.heap.size + 1 + 1 + 1, 2, none⟩ = some (.int .i64 pn) := by rw [hw9]; exact World.cell?_setCell_same _ _ _ ((World.cell?_setCell_other _ _ _ _ (by intro e; injection e with _ e2; omega)).trans HN.out.c2)
            have q3 : w9.cell? ⟨w.heap.size + 1 + 1 + 1, 3, none⟩ = some (.int .i64 st) := by rw [hw9]; exact (World.cell?_setCell_other _ _ _ _ (by intro e; injection e with _ e2; omega)).trans ((World.cell?_setCell_other _ _ _ _ (by intro e; injection e with _ e2; omega)).trans HN.out.c3)
            have ht9 : w9.there (w.heap.size + 1 + 1) 0 4 := by rw [hw9]; exact there_setCell (there_setCell htz _ rfl _) _ rfl _
            have hsz5 : (Try.prog.info? 60).map (·.size) = some (#[.int .i64 room, .slice (some ⟨g, 0, none⟩) 0 0, .int .i64 pn, .int .i64 st] : Array Value).size := by show _ = some 4; kernel_rfl
            have hall : (#[.int .i64 room, .slice (some ⟨g, 0, none⟩) 0 0, .int .i64 pn, .int .i64 st] : Array Value).all (·.oneCell') = true := by simp [Value.oneCell']
            have hld := load_setCells (P := Try.prog) ht9 Try.underlying60 rfl hsz5
            have hb9 : Below (w.heap.size + 1 + 1 + 1) w1 w9 := by rw [hw9]; exact (HBR8.out.setCell (p := ⟨w.heap.size + 1 + 1 + 1, 1, none⟩) (Nat.le_refl _) _).setCell (p := ⟨w.heap.size + 1 + 1 + 1, 2, none⟩) (Nat.le_refl _) _
            have hbw : Below w.heap.size w (w9.setCells (w.heap.size + 1 + 1) 0 (#[.int .i64 room, .slice (some ⟨g, 0, none⟩) 0 0, .int .i64 pn, .int .i64 st] : Array Value).toList) := below_setCells (by omega) _ _ _ (HB1.out.trans (hb9.mono (by omega)))
            have HBW := Lib.hid hbw
            have HO9w : Hid ((w9.setCells (w.heap.size + 1 + 1) 0 (#[.int .i64 room, .slice (some ⟨g, 0, none⟩) 0 0, .int .i64 pn, .int .i64 st] : Array Value).toList).ownsRow (w.heap.size + 1 + 1 + 1 + 1) 63 2 (.slice (some ⟨g, 0, none⟩) (ks.length + 1) 1) (ks.length + 1) ((ks ++ [y]).flatMap blist)) := Lib.hid (owns_sets (by omega) _ _ _ (by rw [hw9]; exact ownsRow_setCell_below (ownsRow_setCell_below (by have := HN.out.own; simpa using this) (a := ⟨w.heap.size + 1 + 1 + 1, 1, none⟩) (Nat.lt_succ_self _) _) (a := ⟨w.heap.size + 1 + 1 + 1, 2, none⟩) (Nat.lt_succ_self _) _))
            have HW9 := Lib.hid hw9
            clear hw9 hbw hb9 hll HZ
            go_upto_region 12 with (fail)
            rw [← HPN.out, ← HW9.out]
            clear c0 d1 d2 f1 f2 htz
            go_wp2_with (first | (refine wpList_store_mid rfl 60 _ _ rfl (w.heap.size + 1 + 1) 0 #[.int .i64 room, .slice (some ⟨g, 0, none⟩) 0 0, .int .i64 pn, .int .i64 st] rfl rfl ht9 hsz5 hall ?_))
            refine bodyPost_ret (results_c1 (by rfl) _ (by rfl) hld) rfl ?_
            rw [HZ1.out.1, HZ1.out.2, ← HPN.out]
            exact ⟨⟨_, rfl, (by rw [hk0]; exact sl_none (by decide) (by intro e; cases e)), fun x hx => by
              rcases List.mem_append.1 (List.mem_of_mem_drop hx) with hx | hx
              · exact (HV.out.2 x (dq_mem (by rw [← HKS.out]; exact hx))).below HBW.out
              · rw [List.mem_singleton] at hx; rw [hx]; exact HY.out.below HBW.out⟩, HBW.out⟩
          · have hc2 : ¬ c7 - 1 = 0 := by omega
            have hc3 : ¬ (c7 : Int) = 1 := by omega
            obtain ⟨w9, hw9⟩ : ∃ w9, w9 = (w8.setCell ⟨w.heap.size + 1 + 1 + 1, 1, none⟩ (.slice (some ⟨g, 2, none⟩) ks.length (c7 - 1))).setCell ⟨w.heap.size + 1 + 1 + 1, 2, none⟩ (.int .i64 pn) := ⟨_, rfl⟩
            have q0 : w9.cell? ⟨w.heap.size + 1 + 1 + 1, 0, none⟩ = some (.int .i64 room) := by rw [hw9]; exact (World.cell?_setCell_other _ _ _ _ (by intro e; injection e with _ e2; omega)).trans ((World.cell?_setCell_other _ _ _ _ (by intro e; injection e with _ e2; omega)).trans HN.out.c0)
            have q1 : w9.cell? ⟨w.heap.size + 1 + 1 + 1, 1, none⟩ = some (.slice (some ⟨g, 2, none⟩) ks.length (c7 - 1)) := by rw [hw9]; exact (World.cell?_setCell_other _ _ _ _ (by intro e; injection e with _ e2; omega)).trans (World.cell?_setCell_same _ _ _ HN.out.c1)
            have q2 : w9.cell? ⟨w.heap.size + 1 + 1 + 1, 2, none⟩ = some (.int .i64 pn) := by rw [hw9]; exact World.cell?_setCell_same _ _ _ ((World.cell?_setCell_other _ _ _ _ (by intro e; injection e with _ e2; omega)).trans HN.out.c2)
            have q3 : w9.cell? ⟨w.heap.size + 1 + 1 + 1, 3, none⟩ = some (.int .i64 st) := by rw [hw9]; exact (World.cell?_setCell_other _ _ _ _ (by intro e; injection e with _ e2; omega)).trans ((World.cell?_setCell_other _ _ _ _ (by intro e; injection e with _ e2; omega)).trans HN.out.c3)
            have ht9 : w9.there (w.heap.size + 1 + 1) 0 4 := by rw [hw9]; exact there_setCell (there_setCell htz _ rfl _) _ rfl _
            have hsz5 : (Try.prog.info? 60).map (·.size) = some (#[.int .i64 room, .slice (some ⟨g, 2, none⟩) ks.length (c7 - 1), .int .i64 pn, .int .i64 st] : Array Value).size := by show _ = some 4; kernel_rfl
            have hall : (#[.int .i64 room, .slice (some ⟨g, 2, none⟩) ks.length (c7 - 1), .int .i64 pn, .int .i64 st] : Array Value).all (·.oneCell') = true := by simp [Value.oneCell']
            have hld := load_setCells (P := Try.prog) ht9 Try.underlying60 rfl hsz5
            have hb9 : Below (w.heap.size + 1 + 1 + 1) w1 w9 := by rw [hw9]; exact (HBR8.out.setCell (p := ⟨w.heap.size + 1 + 1 + 1, 1, none⟩) (Nat.le_refl _) _).setCell (p := ⟨w.heap.size + 1 + 1 + 1, 2, none⟩) (Nat.le_refl _) _
            have hbw : Below w.heap.size w (w9.setCells (w.heap.size + 1 + 1) 0 (#[.int .i64 room, .slice (some ⟨g, 2, none⟩) ks.length (c7 - 1), .int .i64 pn, .int .i64 st] : Array Value).toList) := below_setCells (by omega) _ _ _ (HB1.out.trans (hb9.mono (by omega)))
            have HBW := Lib.hid hbw
            have HO9w : Hid ((w9.setCells (w.heap.size + 1 + 1) 0 (#[.int .i64 room, .slice (some ⟨g, 2, none⟩) ks.length (c7 - 1), .int .i64 pn, .int .i64 st] : Array Value).toList).ownsRow (w.heap.size + 1 + 1 + 1 + 1) 63 2 (.slice (some ⟨g, 0, none⟩) (ks.length + 1) c7) (ks.length + 1) ((ks ++ [y]).flatMap blist)) := Lib.hid (owns_sets (by omega) _ _ _ (by rw [hw9]; exact ownsRow_setCell_below (ownsRow_setCell_below (by have := HN.out.own; simpa using this) (a := ⟨w.heap.size + 1 + 1 + 1, 1, none⟩) (Nat.lt_succ_self _) _) (a := ⟨w.heap.size + 1 + 1 + 1, 2, none⟩) (Nat.lt_succ_self _) _))
            have HW9 := Lib.hid hw9
            clear hw9 hbw hb9 hll HZ
            go_upto_region 12 with (fail)
            rw [← HPN.out, ← HW9.out]
            clear c0 d1 d2 f1 f2 htz
            go_wp2_with (first | (refine wpList_store_mid rfl 60 _ _ rfl (w.heap.size + 1 + 1) 0 #[.int .i64 room, .slice (some ⟨g, 2, none⟩) ks.length (c7 - 1), .int .i64 pn, .int .i64 st] rfl rfl ht9 hsz5 hall ?_))
            refine bodyPost_ret (results_c1 (by rfl) _ (by rfl) hld) rfl ?_
            rw [HZ1.out.1, HZ1.out.2, ← HPN.out]
            exact ⟨⟨_, rfl, (by rw [flat_drop, show ((ks ++ [y]).drop 1).length = ks.length by simp]; exact sl_drop (owns_sl HO9w.out)), fun x hx => by
              rcases List.mem_append.1 (List.mem_of_mem_drop hx) with hx | hx
              · exact (HV.out.2 x (dq_mem (by rw [← HKS.out]; exact hx))).below HBW.out
              · rw [List.mem_singleton] at hx; rw [hx]; exact HY.out.below HBW.out⟩, HBW.out⟩
        · have HZ1 : Hid (zl = ks ++ [y] ∧ zp = pu) := Lib.hid (by have := HZ.out; rw [if_neg hgt, if_neg hgt] at this; exact this)
          have hgt2 : ¬ room < (ks.length : Int) + 1 := by omega
          have hsz5 : (Try.prog.info? 60).map (·.size) = some (#[.int .i64 room, .slice a7 (ks.length + 1) c7, .int .i64 pu, .int .i64 st] : Array Value).size := by show _ = some 4; kernel_rfl
          have hall : (#[.int .i64 room, .slice a7 (ks.length + 1) c7, .int .i64 pu, .int .i64 st] : Array Value).all (·.oneCell') = true := by simp [Value.oneCell']
          have hld := load_setCells (P := Try.prog) htz Try.underlying60 rfl hsz5
          have d0 := HN.out.c0
          have d3 := HN.out.c3
          clear HZ hll
          go_wp2_with (first | (refine wpList_store_mid rfl 60 _ _ rfl (w.heap.size + 1 + 1) 0 #[.int .i64 room, .slice a7 (ks.length + 1) c7, .int .i64 pu, .int .i64 st] rfl rfl htz hsz5 hall ?_))
          refine bodyPost_ret (results_c1 (by rfl) _ (by rfl) hld) rfl ?_
          rw [HZ1.out.1, HZ1.out.2]
          have hbw : Below w.heap.size w w8 := HB1.out.trans (HBR8.out.mono (by omega))
          have hbs : Below w.heap.size w (w8.setCells (w.heap.size + 1 + 1) 0 (#[.int .i64 room, .slice a7 (ks.length + 1) c7, .int .i64 pu, .int .i64 st] : Array Value).toList) := below_setCells (by omega) _ _ _ hbw
          exact ⟨⟨_, rfl, by have := owns_sl (owns_sets (b := w.heap.size + 1 + 1) (by omega) (#[.int .i64 room, .slice a7 (ks.length + 1) c7, .int .i64 pu, .int .i64 st] : Array Value).toList 0 _ HN.out.own); simpa using this, fun x hx => by
            rcases List.mem_append.1 hx with hx | hx
            · exact (HV.out.2 x (dq_mem (by rw [← HKS.out]; exact hx))).below hbs
            · rw [List.mem_singleton] at hx; rw [hx]; exact HY.out.below hbs⟩, hbs⟩
      · omega
      · unfold maxLen; omega
      · have := hob6.out; simp; omega
end Go.Proofs.Ytlfnddmncbkjaaa.W
