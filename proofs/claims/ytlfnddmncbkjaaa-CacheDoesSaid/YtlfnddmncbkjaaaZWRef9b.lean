/- ferrybridgeref9.Stale, walked. -/
import Derived.Test.YtlfnddmncbkjaaaZWRef9a
import Derived.Test.YtlfnddmncbkjaaaZMB
namespace Go.Proofs.Ytlfnddmncbkjaaa.Fb
set_option linter.unusedVariables false
set_option linter.unusedSimpArgs false
open Go.RowKit
/-- the document's cache at work: its box at ob, the blocks that it holds so far -/
structure O9 (ob : Nat) (TB : TypeId) (room pu st : Int) (vo : Value) (w0 w : World) (ks : List BlkD) : Prop where
  c0 : w.cell? ⟨ob, 0, none⟩ = some (.int .i64 room)
  c1 : w.cell? ⟨ob, 1, none⟩ = some vo
  c2 : w.cell? ⟨ob, 2, none⟩ = some (.int .i64 pu)
  c3 : w.cell? ⟨ob, 3, none⟩ = some (.int .i64 st)
  frz : ∀ o, w.frozen? ⟨ob, o, none⟩ = false
  own : w.ownsRow (ob + 1) TB 2 vo ks.length (ks.flatMap blist)
  bel : Below ob w0 w
section
variable {ob : Nat} {TB : TypeId} {room pu st : Int} {vo : Value} {w0 w w' : World} {ks : List BlkD}
theorem O9.lt (h : O9 ob TB room pu st vo w0 w ks) : ob < w.heap.size := lt_of_cell h.c0
theorem O9.below (h : O9 ob TB room pu st vo w0 w ks) (hb : Below w.heap.size w w') : O9 ob TB room pu st vo w0 w' ks := by
  have hl := h.lt
  exact ⟨(hb.cell hl).trans h.c0, (hb.cell hl).trans h.c1, (hb.cell hl).trans h.c2, (hb.cell hl).trans h.c3, fun o => (hb.frozen (p := ⟨ob, o, none⟩) hl).trans (h.frz o), owns_below h.own hb, h.bel.trans (hb.mono (Nat.le_of_lt hl))⟩
theorem O9.count (h : O9 ob TB room pu st vo w0 w ks) (st' : Int) : O9 ob TB room pu st' vo w0 (w.setCell ⟨ob, 3, none⟩ (.int .i64 st')) ks := by
  have hc : ∀ j, j ≠ 3 → (w.setCell ⟨ob, 3, none⟩ (.int .i64 st')).cell? ⟨ob, j, none⟩ = w.cell? ⟨ob, j, none⟩ := fun j hj => World.cell?_setCell_other _ _ _ _ (by intro e; injection e with _ e2; omega)
  exact ⟨(hc 0 (by omega)).trans h.c0, (hc 1 (by omega)).trans h.c1, (hc 2 (by omega)).trans h.c2, World.cell?_setCell_same _ _ _ h.c3, fun o => (World.frozen?_setCell _ _ _ _).trans (h.frz o), ownsRow_setCell_below h.own (a := ⟨ob, 3, none⟩) (Nat.lt_succ_self ob) _, h.bel.setCell (p := ⟨ob, 3, none⟩) (Nat.le_refl _) _⟩
theorem O9.next {v' : Value} {x : BlkD} (h : O9 ob TB room pu st vo w0 w ks) (hown : w'.ownsRow (ob + 1) TB 2 v' (ks.length + 1) (ks.flatMap blist ++ blist x)) (hg : w.grownBy w' vo.ownBlock) : O9 ob TB room pu st v' w0 (w'.setCell ⟨ob, 1, none⟩ v') (ks ++ [x]) := by
  have hl := h.lt
  have e := hg.block ob hl (fun e => by have := h.own.lt _ e.symm; omega)
  have hc : ∀ j, j ≠ 1 → (w'.setCell ⟨ob, 1, none⟩ v').cell? ⟨ob, j, none⟩ = w.cell? ⟨ob, j, none⟩ := fun j hj => (World.cell?_setCell_other _ _ _ _ (by intro e; injection e with _ e2; omega)).trans (cell_block e j)
  refine ⟨(hc 0 (by omega)).trans h.c0, World.cell?_setCell_same _ _ _ ((cell_block e 1).trans h.c1), (hc 2 (by omega)).trans h.c2, (hc 3 (by omega)).trans h.c3, fun o => (World.frozen?_setCell _ _ _ _).trans ((frozen_block e o).trans (h.frz o)), ?_, (h.bel.grown hg (Nat.le_of_lt hl) (fun g e => by have := (h.own.lt g e).1; omega)).setCell (p := ⟨ob, 1, none⟩) (Nat.le_refl _) _⟩
  have := ownsRow_setCell_below hown (a := ⟨ob, 1, none⟩) (Nat.lt_succ_self ob) v'
  simpa using this
end
theorem owns_sets {B b : Nat} {T : TypeId} {s n : Nat} {v : Value} {xs : List Value} (hlt : b < B) : ∀ (us : List Value) (o : Nat) (w : World), w.ownsRow B T s v n xs → (w.setCells b o us).ownsRow B T s v n xs
  | [], _, _, h => h
  | u :: r, o, w, h => owns_sets hlt r (o + 1) _ (ownsRow_setCell_below h (a := ⟨b, o, none⟩) hlt u)
theorem wrap_next (a : Int) (n : Nat) : wrap64 (wrap64 (a + n) + 1) = wrap64 (a + ((n + 1 : Nat) : Int)) := by
  unfold wrap64; omega
end Go.Proofs.Ytlfnddmncbkjaaa.Fb
namespace Go.Proofs.Ytlfnddmncbkjaaa.W
open Go.RowKit Fb
set_option maxRecDepth 100000 in
set_option maxHeartbeats 1600000 in
theorem stale9_any (room : Int) (v : Value) (pu st : Int) (l : List BlkD) (fr tw : Int) (w : World) (hst : i64ok st) (hv : Blks w v l) (hins : ∀ x ∈ l, x.ins.length ≤ 3518437208883) (hl : l.length * 32 ≤ 140737488351232) (hf : U32 fr) (ht : U32 tw) :
    Calls Try.prog 37 #[.agg #[.int .i64 room, v, .int .i64 pu, .int .i64 st], .agg #[.int .u32 fr, .int .u32 tw]] w fun e w' => (∃ v', e = .returned (.agg #[.int .i64 room, v', .int .i64 pu, .int .i64 (wrap64 (st + ((l.length : Int) - ((l.filter (fun x => !staleB fr tw x)).length : Int))))]) ∧ Blks w' v' (l.filter (fun x => !staleB fr tw x))) ∧ Below w.heap.size w w' := by
  obtain ⟨ao, cap, rfl, hc, hm, -, ho⟩ := hv.1.open (fun _ _ => rfl) (by omega)
  unfold maxLen at hm
  obtain ⟨w1, hw1⟩ : ∃ w1, w1 = (((w.alloc (.cells #[.int .i64 room, .slice ao l.length cap, .int .i64 pu, .int .i64 st] 60)).alloc (.cells #[.int .u32 fr, .int .u32 tw] 65)).alloc (.cells #[.int .i64 0, .slice none 0 0, .int .i64 0, .int .i64 0] 60)).alloc (.cells #[.int .i64 room, .slice none 0 0, .int .i64 pu, .int .i64 st] 60) := ⟨_, rfl⟩
  have hb1 : Below w.heap.size w w1 := by rw [hw1]; exact (by repeat (first | with_reducible exact Below.refl _ _ | with_reducible refine below_drewN ?_ _ | ((with_reducible refine Below.setCell ?_ ?hq _); case hq => (first | (simp; done) | (simp; omega))) | ((with_reducible refine Below.alloc ?_ ?hq _); case hq => (first | (simp; done) | (simp; omega)))))
  have hs1 : w1.heap.size = w.heap.size + 4 := by rw [hw1]; simp
  have c0 : (w1).cell? ⟨w.heap.size, 0, none⟩ = some (.int .i64 room) := by rw [hw1]; go_cell
  have c1 : (w1).cell? ⟨w.heap.size, 1, none⟩ = some (.slice ao l.length cap) := by rw [hw1]; go_cell
  have c2 : (w1).cell? ⟨w.heap.size, 2, none⟩ = some (.int .i64 pu) := by rw [hw1]; go_cell
  have c3 : (w1).cell? ⟨w.heap.size, 3, none⟩ = some (.int .i64 st) := by rw [hw1]; go_cell
  have r0 : (w1).cell? ⟨w.heap.size + 1, 0, none⟩ = some (.int .u32 fr) := by rw [hw1]; go_cell
  have r1 : (w1).cell? ⟨w.heap.size + 1, 1, none⟩ = some (.int .u32 tw) := by rw [hw1]; go_cell
  have o0 : (w1).cell? ⟨w.heap.size + 1 + 1 + 1, 0, none⟩ = some (.int .i64 room) := by rw [hw1]; go_cell
  have o1 : (w1).cell? ⟨w.heap.size + 1 + 1 + 1, 1, none⟩ = some (.slice none 0 0) := by rw [hw1]; go_cell
  have o2 : (w1).cell? ⟨w.heap.size + 1 + 1 + 1, 2, none⟩ = some (.int .i64 pu) := by rw [hw1]; go_cell
  have o3 : (w1).cell? ⟨w.heap.size + 1 + 1 + 1, 3, none⟩ = some (.int .i64 st) := by rw [hw1]; go_cell
  have hZ : w1.heap[w.heap.size + 1 + 1]? = some (.cells #[.int .i64 0, .slice none 0 0, .int .i64 0, .int .i64 0] 60 (0, 0)) := by
    have := heap_alloc_new ((w.alloc (.cells #[.int .i64 room, .slice ao l.length cap, .int .i64 pu, .int .i64 st] 60)).alloc (.cells #[.int .u32 fr, .int .u32 tw] 65)) (.cells #[.int .i64 0, .slice none 0 0, .int .i64 0, .int .i64 0] 60)
    rw [World.size_alloc, World.size_alloc] at this
    rw [hw1, heap_alloc_old _ _ (by simp)]; exact this
  have hfo : ∀ o, w1.frozen? ⟨w.heap.size + 1 + 1 + 1, o, none⟩ = false := fun o => by
    have := heap_alloc_new (((w.alloc (.cells #[.int .i64 room, .slice ao l.length cap, .int .i64 pu, .int .i64 st] 60)).alloc (.cells #[.int .u32 fr, .int .u32 tw] 65)).alloc (.cells #[.int .i64 0, .slice none 0 0, .int .i64 0, .int .i64 0] 60)) (.cells #[.int .i64 room, .slice none 0 0, .int .i64 pu, .int .i64 st] 60)
    rw [World.size_alloc, World.size_alloc, World.size_alloc] at this
    rw [hw1]; unfold World.frozen?; rw [this]; simp
  have hws : wrap64 (st + ((0 : Nat) : Int)) = st := by obtain ⟨h1, h2⟩ := hst; unfold wrap64; omega
  have HO9 : Hid (O9 (w.heap.size + 1 + 1 + 1) 63 room pu (wrap64 (st + ((0 : Nat) : Int))) (.slice none 0 0) w1 w1 []) := Lib.hid (by rw [hws]; exact ⟨o0, o1, o2, o3, hfo, World.ownsRow_nil _ _ _ _, Below.refl _ _⟩)
  have HCR := Lib.hid (And.intro c1 (And.intro r0 (And.intro r1 hZ)))
  have HHAS : Hid (∀ x ∈ l, ∀ W, Below w.heap.size w W → _) := Lib.hid (fun x hx W hW => has9_any x fr tw W ((hv.2 x hx).below hW) (hins x hx) hf ht)
  have HV := Lib.hid hv
  have HO := Lib.hid ho
  have HW1 := Lib.hid hw1
  have HB1 := Lib.hid hb1
  have hln : l.length ≤ 4398046510976 := by omega
  obtain ⟨ib, hib, hib0, hib1, hib2⟩ := info_parts (show (Try.prog.info? 63).map (fun i => (i.zero, i.size, i.bytes)) = some (some (.agg #[.int .u32 0, .slice none 0 0]), 2, 32) by kernel_rfl)
  obtain ⟨P, hP⟩ : ∃ P : BlkD → Bool, P = staleB fr tw := ⟨_, rfl⟩
  have hPe : (fun x => !staleB fr tw x) = fun x => !P x := by rw [hP]
  rw [hPe]
  have HP : Hid (∀ x : BlkD, hasB x.pc x.ins.length fr tw = P x) := Lib.hid (fun x => by rw [hP]; rfl)
  clear hw1 hb1 hv ho hins hl hZ hfo hws o0 o1 o2 o3 hP hPe hf ht hst c1 r0 r1
  go_enter Try.func37, Try.ntmps37
  go_upto_region 2 with (fail)
  rw [← HW1.out]
  clear c0 c2 c3
  go_wp2_with fail
  go_loopw [6] (fun i wr => ∃ (k : Nat) (ks : List BlkD) (vo : Value), i = .int .i64 k ∧ k ≤ l.length ∧ ks.length ≤ k ∧ Hid (O9 (w.heap.size + 1 + 1 + 1) 63 room pu (wrap64 (st + ((k - ks.length : Nat) : Int))) vo w1 wr ks ∧ ks = (l.take k).filter (fun x => !P x))) (fun i _ => l.length - (intOf i).toNat)
  case atStart => exact ⟨0, [], _, rfl, by omega, by simp, Lib.hid ⟨HO9.out, rfl⟩⟩
  case round =>
    obtain ⟨k, ks, vo, rfl, hk, hkl, HI⟩ := hrel
    have hob := HI.out.1.lt
    have hsr : w1.heap.size ≤ wr.heap.size := HI.out.1.bel.size
    have HBR : Hid (Below (w.heap.size + 1 + 1 + 1) w1 wr) := Lib.hid HI.out.1.bel
    have c1 := (HBR.out.cell (p := ⟨w.heap.size, 1, none⟩) (by show w.heap.size < _; omega)).trans HCR.out.1
    have r0 := (HBR.out.cell (p := ⟨w.heap.size + 1, 0, none⟩) (by show w.heap.size + 1 < _; omega)).trans HCR.out.2.1
    have r1 := (HBR.out.cell (p := ⟨w.heap.size + 1, 1, none⟩) (by show w.heap.size + 1 < _; omega)).trans HCR.out.2.2.1
    by_cases hlt : k < l.length
    · obtain ⟨b, off, rfl, hbl, hel⟩ := HO.out (by intro e; rw [e] at hlt; simp at hlt)
      obtain ⟨x, hx⟩ : ∃ x, x = l[k] := ⟨_, rfl⟩
      have hxm : x ∈ l := by rw [hx]; exact List.getElem_mem hlt
      have hxo := HV.out.2 x hxm
      obtain ⟨ac, cc, hvi, -⟩ := hxo.at_.open (fun _ _ => rfl) (by omega)
      have HBW : Hid (∀ W, Below wr.heap.size wr W → Below w.heap.size w W) := Lib.hid (fun W hW => (HB1.out.trans (HBR.out.mono (by omega))).trans (hW.mono (by omega)))
      have HX : Hid (∀ W, Below wr.heap.size wr W → At W b (off + k * 2) (blist x)) := Lib.hid (fun W hW => by rw [hx]; exact (hel k hlt).of_lt (HBW.out W hW) hbl)
      have HR2 : Hid (∀ W, Below wr.heap.size wr W → At W (w.heap.size + 1) 0 [.int .u32 fr, .int .u32 tw]) := Lib.hid (fun W hW j hj => by
        match j, hj with
        | 0, _ => exact (hW.cell (p := ⟨w.heap.size + 1, 0, none⟩) (by show w.heap.size + 1 < _; omega)).trans r0
        | 1, _ => exact (hW.cell (p := ⟨w.heap.size + 1, 1, none⟩) (by show w.heap.size + 1 < _; omega)).trans r1)
      have HH : Hid (∀ W, Below wr.heap.size wr W → Calls Try.prog 40 #[.agg #[.int .u32 x.pc, x.vi], .agg #[.int .u32 fr, .int .u32 tw]] W fun e w' => e = .returned (.bool (P x)) ∧ Below W.heap.size W w') := Lib.hid (fun W hW => by rw [← HP.out x]; exact HHAS.out x hxm W (HBW.out W hW))
      have HTS : Hid ((l.take (k + 1)).filter (fun x => !P x) = ks ++ (if P x = true then [] else [x])) := Lib.hid (by
        rw [List.take_succ_eq_append_getElem hlt, List.filter_append, ← HI.out.2, ← hx]
        congr 1
        cases hpx : P x with
        | true => simp [hpx]
        | false => simp [hpx])
      have i0 : (0 : Int) ≤ (k : Int) := by omega
      have i1 : (k : Int) < (l.length : Int) := by omega
      have hlw : w.heap.size < wr.heap.size := by omega
      obtain ⟨s', hs'⟩ : ∃ s, s = wrap64 (st + ((k - ks.length : Nat) : Int)) := ⟨_, rfl⟩
      have HS' := Lib.hid hs'
      have HO9r : Hid (O9 (w.heap.size + 1 + 1 + 1) 63 room pu s' vo w1 wr ks) := Lib.hid (by rw [hs']; exact HI.out.1)
      have HKS := Lib.hid HI.out.2
      obtain ⟨q, hq⟩ : ∃ q, q = P x := ⟨_, rfl⟩
      rw [← hq] at HH HTS
      have HC1 := Lib.hid c1
      have HVI := Lib.hid hvi
      have HONE : Hid (∀ u ∈ blist x, u.oneCell' = true) := Lib.hid (blist_one hxo)
      clear hel hx hxm hxo hs' HI hq r0 r1 hvi
      go_wp2_with fail
      refine region_quiet_lit (fun W => Below wr.heap.size wr W) (by kernel_rfl) (by kernel_rfl) (Below.drew (Below.refl _ _)) ?_
      quiet_step ((intro _; rfl))
      refine wpQuiet_cell rfl 58 _ rfl ⟨w.heap.size, 1, none⟩ rfl (.slice (some ⟨b, off, none⟩) l.length cap) (fun W hW => by have hc := (hW.cell (p := ⟨w.heap.size, 1, none⟩) hlw).trans c1; go_simp) ?_
      iterate 2 quiet_step ((intro _; rfl))
      refine wpQuiet_load_at rfl 63 _ rfl b (off + k * 2) rfl #[.int .u32 x.pc, x.vi] _ (fun W hW => HX.out W hW) Try.underlying63 rfl (by show _ = some 2; kernel_rfl) ?_
      refine wpQuiet_load_at rfl 65 _ rfl (w.heap.size + 1) 0 rfl #[.int .u32 fr, .int .u32 tw] _ (fun W hW => HR2.out W hW) Try.underlying65 rfl (by show _ = some 2; kernel_rfl) ?_
      quiet_step ((intro hC; exact (HH.out _ hC).mono (fun e w'' ⟨he, hb⟩ => ⟨he, hC.trans (hb.mono hC.size)⟩)))
      refine wpQuiet_nil ?_
      intro w6 hb6
      have HO6 := Lib.hid (HO9r.out.below hb6)
      have d1 := (hb6.cell (p := ⟨w.heap.size, 1, none⟩) hlw).trans HC1.out
      have hat6 := HX.out w6 hb6
      have y0 := hat6.get (j := 0) (v := .int .u32 x.pc) rfl
      have y1 := hat6.get (j := 1) (v := x.vi) rfl
      simp only [Nat.add_zero] at y0
      have hs6 := hb6.size
      clear c1 hat6 hb6
      cases q with
      | true =>
        have o3 := HO6.out.c3
        have of3 := HO6.out.frz 3
        have HN := Lib.hid (HO6.out.count (wrap64 (s' + 1)))
        go_wp2_with fail
        go_roundw
        case rel => exact ⟨k + 1, ks, vo, by simp, by omega, by omega, Lib.hid ⟨by rw [show k + 1 - ks.length = (k - ks.length) + 1 by omega, ← wrap_next, ← HS'.out]; exact HN.out, by rw [HTS.out]; simp⟩⟩
        case measure => simp [intOf]; omega
      | false =>
        have o1 := HO6.out.c1
        have of1 := HO6.out.frz 1
        rw [HVI.out] at y1
        have hksl : ks.length ≤ 4398046510976 := by omega
        have hln2 : ks.length + 1 ≤ l.length := by omega
        have hfar : Hid (vo.ownBlock ≠ some (w.heap.size + 1 + 1 + 1)) := Lib.hid (fun e => by have := (HO6.out.own.lt _ e).1; omega)
        have hob6 : Hid (w.heap.size + 1 + 1 + 1 < w6.heap.size) := Lib.hid (HO6.out.lt)
        have HOWN : Hid (∀ W, Below w6.heap.size w6 W → O9 (w.heap.size + 1 + 1 + 1) 63 room pu s' vo w1 W ks) := Lib.hid (fun W hW => HO6.out.below hW)
        have HB1L : Hid (blist x = [.int .u32 x.pc, .slice ac x.ins.length cc]) := Lib.hid (by unfold blist; rw [HVI.out])
        rw [HB1L.out] at HONE
        have HFIN : Hid (∀ W v7 W7, Below w6.heap.size w6 W → W7.ownsRow (w.heap.size + 1 + 1 + 1 + 1) 63 2 v7 (ks.length + 1) (ks.flatMap blist ++ [.int .u32 x.pc, .slice ac x.ins.length cc]) → W.grownBy W7 vo.ownBlock → O9 (w.heap.size + 1 + 1 + 1) 63 room pu (wrap64 (st + ((k + 1 - (ks ++ [x]).length : Nat) : Int))) v7 w1 (W7.setCell ⟨w.heap.size + 1 + 1 + 1, 1, none⟩ v7) (ks ++ [x])) := Lib.hid (fun W v7 W7 hW ho hg => by
          rw [show k + 1 - (ks ++ [x]).length = k - ks.length by simp, ← HS'.out]
          exact (HOWN.out W hW).next (by rw [HB1L.out]; exact ho) hg)
        have hal : Below w6.heap.size w6 (w6.alloc (.cells #[.int .u32 x.pc, .slice ac x.ins.length cc] 63)) := Below.alloc (Below.refl _ _) (Nat.le_refl _) _
        have oa1 : (w6.alloc (.cells #[.int .u32 x.pc, .slice ac x.ins.length cc] 63)).cell? ⟨w.heap.size + 1 + 1 + 1, 1, none⟩ = some vo := (HOWN.out _ hal).c1
        have HE1 := Lib.hid oa1
        have HE2 : Hid ((w6.alloc (.cells #[.int .u32 x.pc, .slice ac x.ins.length cc] 63)).frozen? ⟨w.heap.size + 1 + 1 + 1, 1, none⟩ = false) := Lib.hid ((HOWN.out _ hal).frz 1)
        have HSL7 : Hid (Sl (w6.alloc (.cells #[.int .u32 x.pc, .slice ac x.ins.length cc] 63)).drew (.slice (some ⟨w6.heap.size, 0, none⟩) 1 1) 2 1 [.int .u32 x.pc, .slice ac x.ins.length cc]) := Lib.hid (Sl.below (at_new2 _ _ _ _) (Below.drew (Below.refl _ _)))
        clear hal
        go_wp2_with fail
        go_region_law (
          refine step_append_any (by rfl) _ _ _ (by rfl) (w.heap.size + 1 + 1 + 1 + 1) 63 ib _ 2 32 Try.underlying58 hib hib0 hib1 hib2 rfl (by omega) vo ks.length _ (by rfl) (HOWN.out _ (by with_reducible first | exact Below.drew (Below.alloc (Below.refl _ _) (Nat.le_refl _) _) | exact Below.alloc (Below.drew (Below.refl _ _)) (Nat.le_refl _) _ | exact Below.alloc (Below.refl _ _) (Nat.le_refl _) _)).own
                    (.slice (some ⟨w6.heap.size, 0, none⟩) 1 1) 1 [.int .u32 x.pc, .slice ac x.ins.length cc] (by rfl) ?k1 HONE.out (by omega) (by unfold maxLen; omega) ?k2 ?_
          case k1 => exact HSL7.out
          case k2 => have := hob6.out; show _ ≤ (World.alloc _ _).heap.size; simp; omega
          intro v7 w7 hown7 hgrow7
          obtain ⟨a7, c7, rfl⟩ := owns_slice hown7
          have e1 : w7.cell? ⟨w.heap.size + 1 + 1 + 1, 1, none⟩ = some vo := (hgrow7.cell_far ⟨w.heap.size + 1 + 1 + 1, 1, none⟩ (by have := hob6.out; show _ < (World.alloc _ _).heap.size; simp; omega) hfar.out.symm).trans HE1.out
          have e2 : w7.frozen? ⟨w.heap.size + 1 + 1 + 1, 1, none⟩ = false := (hgrow7.frozen_far ⟨w.heap.size + 1 + 1 + 1, 1, none⟩ (by have := hob6.out; show _ < (World.alloc _ _).heap.size; simp; omega) hfar.out.symm).trans HE2.out
          have HO7 := Lib.hid hown7
          have HG7 := Lib.hid hgrow7
          clear hown7 hgrow7)
        all_goals
          go_wp2_with fail
          try go_roundw
          case rel =>
            exact ⟨k + 1, ks ++ [x], _, by simp, by omega, by simp; omega, Lib.hid ⟨HFIN.out _ _ _ (Below.drew (Below.alloc (Below.refl _ _) (Nat.le_refl _) _)) HO7.out HG7.out, by rw [HTS.out]; simp⟩⟩
          case measure => simp [intOf]; omega
    · obtain rfl : k = l.length := by omega
      rw [List.take_length] at HI
      have o0 := HI.out.1.c0
      have o1 := HI.out.1.c1
      have o2 := HI.out.1.c2
      have o3 := HI.out.1.c3
      obtain ⟨sn, hsn⟩ : ∃ s, s = wrap64 (st + ((l.length - ks.length : Nat) : Int)) := ⟨_, rfl⟩
      rw [← hsn] at o3
      have hSN : sn = wrap64 (st + ((l.length : Int) - ((l.filter (fun x => !P x)).length : Int))) := by rw [hsn, ← HI.out.2]; congr 2; omega
      have HSN := Lib.hid hSN
      obtain ⟨ac, cc, rfl⟩ := owns_slice HI.out.1.own
      have htz : wr.there (w.heap.size + 1 + 1) 0 4 := there_blk ((HBR.out.block _ (by omega)).trans HCR.out.2.2.2) rfl
      have hsz5 : (Try.prog.info? 60).map (·.size) = some (#[.int .i64 room, .slice ac ks.length cc, .int .i64 pu, .int .i64 sn] : Array Value).size := by show _ = some 4; kernel_rfl
      have hall : (#[.int .i64 room, .slice ac ks.length cc, .int .i64 pu, .int .i64 sn] : Array Value).all (·.oneCell') = true := by simp [Value.oneCell']
      have hld := load_setCells (P := Try.prog) htz Try.underlying60 rfl hsz5
      clear hsn hSN r0 r1
      go_wp2_with (first | (refine wpList_store_mid rfl 60 _ _ rfl (w.heap.size + 1 + 1) 0 #[.int .i64 room, .slice ac ks.length cc, .int .i64 pu, .int .i64 sn] rfl rfl htz hsz5 hall ?_))
      refine bodyPost_ret (results_c1 (by rfl) _ (by rfl) hld) rfl ?_
      rw [HSN.out, ← HI.out.2]
      have hbw : Below w.heap.size w wr := HB1.out.trans (HBR.out.mono (by omega))
      exact ⟨⟨_, rfl, owns_sl (owns_sets (by omega) _ _ _ HI.out.1.own), fun x hx => (HV.out.2 x (by rw [HI.out.2] at hx; exact (List.mem_filter.1 hx).1)).below (below_setCells (by omega) _ _ _ hbw)⟩, below_setCells (by omega) _ _ _ hbw⟩
end Go.Proofs.Ytlfnddmncbkjaaa.W
