import Derived.Test.YtlfnddmncbkjaacZWEng8
import Derived.Test.YtlfnddmncbkjaacZHI
import Derived.Test.YtlfnddmncbkjaacZHL
import Derived.Test.YtlfnddmncbkjaacZMA
import Derived.Test.YtlfnddmncbkjaacZMB
set_option linter.unusedVariables false
set_option linter.unusedSimpArgs false
set_option maxRecDepth 100000
set_option maxHeartbeats 4000000
namespace Go.Proofs.Ytlfnddmncbkjaac.EngineFreshLaw
open Go.RowKit Fb W
theorem set2_heap {w : World} {b : Nat} {a0 a1 : Value} {t : TypeId} (h : w.heap[b]? = some (.cells #[a0, a1] t (0, 0))) (u v : Value) : (w.setCells b 0 (#[u, v] : Array Value).toList).heap[b]? = some (.cells #[u, v] t (0, 0)) := by
  show ((w.setCell ⟨b, 0, none⟩ u).setCell ⟨b, 1, none⟩ v).heap[b]? = _
  simp [World.setCell, Array.getElem?_modify, h]
theorem walk (vm vh vs : Value) (m : Mach) (l : List (Int × Int)) (room : Int) (w : World) (hm : MachAt w vm vh m) (wf : m.Wf) (hs : Picks w vs l) (hp : ∀ p ∈ l, i64ok p.1 ∧ i64ok p.2) (hr : i64ok room) :
    Calls Try.prog 8 #[.agg #[vm, vh], vs, .int .i64 room] w fun e w' => e = .returned (.bool true) ∧ Below w.heap.size w w' := by
  obtain ⟨aom, capm, rfl, hcm, hmm, -, -⟩ := hm.1.open
  obtain ⟨aoh, caph, rfl, hch, hmh, -, -⟩ := hm.2.open (fun h hh => hlist_length (wf.harts h hh)) om
  obtain ⟨aos, caps, rfl, hcs, hms, -, hos⟩ := hs.open (fun _ _ => rfl) om
  unfold maxLen at hmm hmh hms
  obtain ⟨w1, hw1⟩ : ∃ w1, w1 = w.alloc (.cells #[.slice aom m.mem.length capm, .slice aoh m.harts.length caph] 25) := ⟨_, rfl⟩
  have hb1 : Below w.heap.size w w1 := by rw [hw1]; exact Fb.blw
  have hs1 : w.heap.size < w1.heap.size := by rw [hw1]; simp
  have c0 : w1.cell? ⟨w.heap.size, 0, none⟩ = some (.slice aom m.mem.length capm) := by rw [hw1]; go_cell
  have c1 : w1.cell? ⟨w.heap.size, 1, none⟩ = some (.slice aoh m.harts.length caph) := by rw [hw1]; go_cell
  have HM := lI (hm.below hb1)
  have HS := lI (hs.below hb1)
  have HWR := lI (wrong_any _ _ _ m wf l w1 HM.out HS.out hp)
  have HWK := lI (fun W hW => work_any _ l W (HS.out.below hW))
  have HE := lI (fun W hW => erun_open _ _ _ m wf l room W (HM.out.below hW) (HS.out.below hW) hp hr)
  have HOS := lI hos
  have HP := lI hp
  have HW1 := lI hw1
  have HB1 := lI hb1
  obtain ⟨g, hg⟩ : ∃ x, x = wrong m l := ⟨_, rfl⟩
  rw [← hg] at HWR
  have HG := lI hg
  clear hw1 hm hs hos hp hg
  go_enter Try.func8, Try.ntmps8
  go_upto_region 1 with (fail)
  rw [← HW1.out]
  by_cases hg0 : g = 0
  rotate_left
  · go_wp2_with fail
    refine HWR.out.mono ?_
    rintro e w2 ⟨rfl, hb2⟩
    have HB2 := lI (HB1.out.trans (hb2.mono HB1.out.size))
    clear hb2 c0 c1
    go_wp2_with fail
    go_ret
    exact ⟨rfl, HB2.out⟩
  subst hg0
  by_cases hr0 : room < 0
  · go_wp2_with fail
    refine HWR.out.mono ?_
    rintro e w2 ⟨rfl, hb2⟩
    have HB2 := lI (HB1.out.trans (hb2.mono HB1.out.size))
    clear hb2 c0 c1
    go_wp2_with fail
    go_ret
    exact ⟨rfl, HB2.out⟩
  by_cases hr1 : 64 < room
  · go_wp2_with fail
    refine HWR.out.mono ?_
    rintro e w2 ⟨rfl, hb2⟩
    have HB2 := lI (HB1.out.trans (hb2.mono HB1.out.size))
    clear hb2 c0 c1
    go_wp2_with fail
    go_ret
    exact ⟨rfl, HB2.out⟩
  go_wp2_with fail
  refine HWR.out.mono ?_
  rintro e w2 ⟨rfl, hb2⟩
  have hs2 := hb2.size
  have d0 := (hb2.cell (p := ⟨w.heap.size, 0, none⟩) (lt_of_cell c0)).trans c0
  have d1 := (hb2.cell (p := ⟨w.heap.size, 1, none⟩) (lt_of_cell c1)).trans c1
  have HB12 := lI hb2
  have HB2 := lI (HB1.out.trans (hb2.mono HB1.out.size))
  clear hb2 c0 c1
  go_wp2_with fail
  refine (HWK.out w2 HB12.out).mono ?_
  rintro e wx ⟨⟨nw, rfl⟩, hwx⟩
  rw [hwx]
  clear hwx
  by_cases hn : 3000 < nw
  · have hn' : (3000 : Int) < (nw : Int) := om
    go_wp2_with fail
    go_ret
    exact ⟨rfl, HB2.out⟩
  have hn' : ¬ (3000 : Int) < (nw : Int) := om
  have hw0 : wrong m l = 0 := HG.out.symm
  have hq0 : engQ m l room = 0 := by unfold engQ; rw [if_pos hw0, if_neg om]
  have HE2 := lI (HE.out w2 HB12.out)
  rw [hq0] at HE2
  go_wp2_with fail
  refine HE2.out.mono ?_
  rintro e w3 ⟨⟨a1, n1, k1, a2, n2, k2, a3, n3, k3, a4, n4, k4, rm, pu, st, steps, rfl, HX⟩, hb3⟩
  have hs3 := hb3.size
  obtain ⟨-, -, zs, hX⟩ := HX.out.1 (by first | trivial | exact hq0)
  have hgd := hX.good
  obtain ⟨sF, hsF⟩ : ∃ s, s = playM l (startM m) := ⟨_, rfl⟩
  have hok := hX.ok
  have hsh := hX.shown
  rw [← hsF] at hgd hok hsh
  have hzl : n4 = zs.length := by
    obtain ⟨_, _, e, -⟩ := hX.blks.1.open (fun _ _ => rfl) om
    injection e
  subst hzl
  have hms' : Ints .u8 w3 (.slice a1 n1 k1) sF.mem := hsh.mach.1
  obtain ⟨w4, hw4⟩ : ∃ w4, w4 = (w3.alloc (.cells #[.slice a1 n1 k1, .slice a2 n2 k2, .slice a3 n3 k3, .int .i64 steps] 29)).alloc (.cells #[.int .i64 room, .slice a4 zs.length k4, .int .i64 pu, .int .i64 st] 55) := ⟨_, rfl⟩
  have hrm : rm = room := (HX.out.1 (by first | trivial | exact hq0)).1
  subst hrm
  have hb4 : Below w3.heap.size w3 w4 := by rw [hw4]; exact Fb.blw
  have hs4 : w3.heap.size + 1 < w4.heap.size := by rw [hw4]; simp
  have s0 : w4.cell? ⟨w3.heap.size, 0, none⟩ = some (.slice a1 n1 k1) := by rw [hw4]; go_cell
  have t0 : (w4).cell? ⟨w3.heap.size + 1, 0, none⟩ = some (.int .i64 rm) := by rw [hw4]; go_cell
  have t1 : (w4).cell? ⟨w3.heap.size + 1, 1, none⟩ = some (.slice a4 zs.length k4) := by rw [hw4]; go_cell
  have t2 : (w4).cell? ⟨w3.heap.size + 1, 2, none⟩ = some (.int .i64 pu) := by rw [hw4]; go_cell
  have t3 : (w4).cell? ⟨w3.heap.size + 1, 3, none⟩ = some (.int .i64 st) := by rw [hw4]; go_cell
  have HBK := lI (hX.blks.below hb4)
  have HME := lI (hms'.below hb4)
  have HOK := lI hok
  have HGD := lI hgd
  have HTD := lI (And.intro hX.tot hX.did)
  have hb14 : Below w1.heap.size w1 w4 := (HB12.out.trans (hb3.mono hs2)).trans (hb4.mono om)
  have f0 := (hb14.cell (p := ⟨w.heap.size, 0, none⟩) om).trans ((HB12.out.cell (p := ⟨w.heap.size, 0, none⟩) om).symm.trans d0)
  have f1 := (hb14.cell (p := ⟨w.heap.size, 1, none⟩) om).trans ((HB12.out.cell (p := ⟨w.heap.size, 1, none⟩) om).symm.trans d1)
  have HB14 := lI hb14
  have HM4 := lI (HM.out.below hb14)
  have HBW4 := lI (HB1.out.trans (hb14.mono HB1.out.size))
  have HW4 := lI hw4
  have hlr : (zs.length : Int) ≤ rm := hok.len
  have hlr' : ¬ rm < (zs.length : Int) := om
  clear hX hgd hok hsh hms' hw4 hb3 hb4 hb14 d0 d1 HX HE HE2 HWR HWK hsF hn hn' hq0
  go_upto_region 4 with (fail)
  rw [← HW4.out]
  go_wp2_with fail
  go_loopw [10] (fun i wr => ∃ j : Nat, i = .int .i64 j ∧ j ≤ zs.length ∧ Hid (Below w4.heap.size w4 wr)) (fun i _ => zs.length - (intOf i).toNat)
  case atStart => exact ⟨0, rfl, om, lI br⟩
  case round =>
    obtain ⟨j, rfl, hj, HBR⟩ := hrel
    have hsr := HBR.out.size
    by_cases hjl : j < zs.length
    · obtain ⟨_, _, e, hcap4, hmv, -, ho⟩ := HBK.out.1.open (fun _ _ => rfl) om
      injection e with e1 _ e3
      subst e1
      subst e3
      obtain ⟨b, off, rfl, hbl, hel⟩ := ho (by intro e; rw [e] at hjl; simp at hjl)
      have hat := (hel j hjl).of_lt HBR.out hbl
      have hbr : b < wr.heap.size := om
      obtain ⟨x, hx⟩ : ∃ x, x = zs[j] := ⟨_, rfl⟩
      have hxm : x ∈ zs := by rw [hx]; exact List.getElem_mem hjl
      have hpl := place_none HOK.out.nodup hjl
      rw [← hx] at hat hpl
      have K := HOK.out.kept x hxm
      have hxo := (HBK.out.2 x hxm).below HBR.out
      obtain ⟨ax, cx, hvi, hcx, hmx, -, -⟩ := hxo.at_.open (fun _ _ => rfl) om
      have y0 := hat.get (j := 0) (v := .int .u32 x.pc) rfl
      have y1 := hat.get (j := 1) (v := x.vi) rfl
      rw [hvi] at y1
      simp only [Nat.add_zero] at y0
      have hmk := blk8_make HGD.out.wf.mlen K.blk K.len
      have HMK := lI (fun W hW => make6_any (.slice a1 n1 k1) sF.mem x.pc W hW hxo.pc HGD.out.wf.mem.getD (by have := HGD.out.wf.mlen; omega))
      rw [make_pc HGD.out.wf.mlen x.pc] at HMK
      obtain ⟨ln, hln⟩ : ∃ y, y = (makeS sF.mem x.pc).2 := ⟨_, rfl⟩
      rw [← hln] at hmk HMK
      have hln16 : ln.length ≤ 16 := by rw [hln]; unfold makeS; rw [if_neg (by have := HGD.out.wf.mlen; omega)]; exact rowS_len _ _ _
      have q0 := (HBR.out.cell (p := ⟨w3.heap.size, 0, none⟩) (lt_of_cell s0)).trans s0
      have q1 := (HBR.out.cell (p := ⟨w3.heap.size + 1, 1, none⟩) (lt_of_cell t1)).trans t1
      have HKE : Hid (∀ W, Below wr.heap.size wr W → W.cell? ⟨w3.heap.size, 0, none⟩ = some (.slice a1 n1 k1) ∧ W.cell? ⟨w3.heap.size + 1, 1, none⟩ = some (.slice (some ⟨b, off, none⟩) zs.length k4) ∧ W.cell? ⟨b, off + j * 2, none⟩ = some (.int .u32 x.pc)) := lI (fun W hW => ⟨(hW.cell (p := ⟨w3.heap.size, 0, none⟩) (lt_of_cell q0)).trans q0, (hW.cell (p := ⟨w3.heap.size + 1, 1, none⟩) (lt_of_cell q1)).trans q1, (hW.cell (p := ⟨b, off + j * 2, none⟩) (lt_of_cell y0)).trans y0⟩)
      have HAT := lI hat
      have HXO := lI hxo
      have HVI := lI hvi
      have HPL := lI hpl
      have HMKE := lI hmk
      have HMER := lI (HME.out.below HBR.out)
      have HKNE := lI K.ne
      have i0 : (0 : Int) ≤ (j : Int) := om
      have i1 : (j : Int) < (zs.length : Int) := om
      have HQ01 := lI (And.intro q0 (And.intro q1 (And.intro y0 y1)))
      clear hel hat hx hpl K hxo hvi hmk hln q0 y0 y1 ho
      go_upto_region 9 with (fail)
      clear q1
      go_cut [11] from 64 to 73 (fun t11 wx => ∃ (pb : Nat) (ai : Option Addr) (ci : Nat), t11 = .pointer (some ⟨pb, 0, none⟩) ∧ wr.heap.size ≤ pb ∧ Hid (Below wr.heap.size wr wx ∧ BlockAt wx (.slice ai ln.length ci) ln ∧ wx.heap[pb]? = some (.cells #[.int .u32 x.pc, .slice ai ln.length ci] 61 (0, 0))))
      case first =>
        have hbd : Below wr.heap.size wr wr.drew := Below.drew br
        refine wp_region_held_drew (S := fun W => W.cell? ⟨w3.heap.size, 0, none⟩ = some (.slice a1 n1 k1) ∧ W.cell? ⟨w3.heap.size + 1, 1, none⟩ = some (.slice (some ⟨b, off, none⟩) zs.length k4) ∧ W.cell? ⟨b, off + j * 2, none⟩ = some (.int .u32 x.pc)) kr (HKE.out _ hbd) (fun hHeld => ?_)
        refine tak 0 (.pointer (some ⟨w3.heap.size, 0, none⟩)) ?_
        try simp only [List.getElem_toArray, List.getElem_cons_zero, List.getElem_cons_succ, Act.put, List.setIfInBounds_toArray, List.set_cons_zero, List.set_cons_succ]
        refine tak 1 (.pointer (some ⟨w3.heap.size, 0, none⟩)) ?_
        try simp only [List.getElem_toArray, List.getElem_cons_zero, List.getElem_cons_succ, Act.put, List.setIfInBounds_toArray, List.set_cons_zero, List.set_cons_succ]
        refine tak 2 (.slice a1 n1 k1) ?_
        try simp only [List.getElem_toArray, List.getElem_cons_zero, List.getElem_cons_succ, Act.put, List.setIfInBounds_toArray, List.set_cons_zero, List.set_cons_succ]
        refine tak 3 (.pointer (some ⟨w3.heap.size + 1, 1, none⟩)) ?_
        try simp only [List.getElem_toArray, List.getElem_cons_zero, List.getElem_cons_succ, Act.put, List.setIfInBounds_toArray, List.set_cons_zero, List.set_cons_succ]
        refine tak 4 (.slice (some ⟨b, off, none⟩) zs.length k4) ?_
        try simp only [List.getElem_toArray, List.getElem_cons_zero, List.getElem_cons_succ, Act.put, List.setIfInBounds_toArray, List.set_cons_zero, List.set_cons_succ]
        refine tak 5 (.int .i64 j) ?_
        try simp only [List.getElem_toArray, List.getElem_cons_zero, List.getElem_cons_succ, Act.put, List.setIfInBounds_toArray, List.set_cons_zero, List.set_cons_succ]
        refine tak 6 (.pointer (some ⟨b, off + j * 2, none⟩)) ?_
        try simp only [List.getElem_toArray, List.getElem_cons_zero, List.getElem_cons_succ, Act.put, List.setIfInBounds_toArray, List.set_cons_zero, List.set_cons_succ]
        refine tak 7 (.pointer (some ⟨b, off + j * 2, none⟩)) ?_
        try simp only [List.getElem_toArray, List.getElem_cons_zero, List.getElem_cons_succ, Act.put, List.setIfInBounds_toArray, List.set_cons_zero, List.set_cons_succ]
        refine tak 8 (.int .u32 x.pc) ?_
        try simp only [List.getElem_toArray, List.getElem_cons_zero, List.getElem_cons_succ, Act.put, List.setIfInBounds_toArray, List.set_cons_zero, List.set_cons_succ]
        refine wpAnyH_ready (rs := [9, 10]) kr zD ?_
        refine AllReadyH.cons rfl (fun K hK => ?_) (AllReadyH.cons rfl (fun K hK => ?_) AllReadyH.nil)
        · go_simp
          refine (HMK.out _ (HMER.out.below hbd)).mono ?_
          rintro e w7 ⟨⟨vi, rfl, hbl⟩, hb7⟩
          obtain ⟨ai, ci, rfl, -⟩ := hbl.open (fun _ _ => rfl) om
          have hB7 : Below wr.heap.size wr w7 := hbd.trans hb7
          have hs7 := hB7.size
          refine hK.out _ _ (HKE.out _ hB7) (fun hHeld2 => ?_)
          clear hK K
          refine wpAnyH_ready (rs := [10]) kr zD ?_
          refine AllReadyH.cons rfl (fun K hK => ?_) AllReadyH.nil
          go_simp
          obtain ⟨w8, hw8⟩ : ∃ w8, w8 = w7.alloc (.cells #[.int .u32 0, .slice none 0 0] 61) := ⟨_, rfl⟩
          have hz8 : w8.heap[w7.heap.size]? = some (.cells #[.int .u32 0, .slice none 0 0] 61 (0, 0)) := by rw [hw8]; exact heap_alloc_new _ _
          have hb78 : Below w7.heap.size w7 w8 := by rw [hw8]; exact Below.alloc br (Nat.le_refl _) _
          have hB8 := hB7.trans (hb78.mono hs7)
          rw [← hw8]
          clear hw8
          refine hK.out _ _ (HKE.out _ hB8) (fun hHeld3 => ?_)
          clear hK K
          refine wpAnyH_ready (rs := [11]) kr zD ?_
          refine AllReadyH.cons rfl (fun K hK => ?_) AllReadyH.nil
          have hth : w8.there w7.heap.size 0 2 := there_blk hz8 rfl
          rw [if_pos zL]
          refine wp_store_mid 61 _ _ rfl w7.heap.size 0 #[.int .u32 x.pc, .slice ai ln.length ci] rfl rfl hth (by show _ = some 2; kernel_rfl) yI ?_
          simp only [Act.put, List.setIfInBounds_toArray, List.set_cons_zero, List.set_cons_succ]
          have hB9 := below_setCells (b := w7.heap.size) om (#[.int .u32 x.pc, .slice ai ln.length ci] : Array Value).toList 0 _ hB8
          have hbl9 : BlockAt (w8.setCells w7.heap.size 0 (#[.int .u32 x.pc, .slice ai ln.length ci] : Array Value).toList) (.slice ai ln.length ci) ln := sl_set_small (Sl.below hbl hb78) hz8 zI _ _
          have hz9 := set2_heap hz8 (.int .u32 x.pc) (.slice ai ln.length ci)
          refine hK.out _ _ (HKE.out _ hB9) (fun hHeld4 => ?_)
          clear hK K
          refine wpAnyH_done kr ?_ _
          go_wp2_with fail
          go_meet
          case rel => exact ⟨w7.heap.size, ai, ci, rfl, om, lI ⟨hB9, hbl9, hz9⟩⟩
        · go_simp
          obtain ⟨w8, hw8⟩ : ∃ w8, w8 = (wr.alloc (.cells #[.int .u32 0, .slice none 0 0] 61)).drew := ⟨_, rfl⟩
          have hz8 : w8.heap[wr.heap.size]? = some (.cells #[.int .u32 0, .slice none 0 0] 61 (0, 0)) := by rw [hw8]; exact heap_alloc_new wr _
          have hB8 : Below wr.heap.size wr w8 := by rw [hw8]; exact Below.drew (Below.alloc br (Nat.le_refl _) _)
          have hs8 : wr.heap.size < w8.heap.size := by rw [hw8]; show _ < (World.alloc _ _).heap.size; simp
          rw [← hw8]
          clear hw8
          refine hK.out _ _ (HKE.out _ hB8) (fun hHeld2 => ?_)
          clear hK K
          refine wpAnyH_ready (rs := [9]) kr zD ?_
          refine AllReadyH.cons rfl (fun K hK => ?_) AllReadyH.nil
          go_simp
          refine (HMK.out _ (HMER.out.below hB8)).mono ?_
          rintro e w7 ⟨⟨vi, rfl, hbl⟩, hb7⟩
          obtain ⟨ai, ci, rfl, -⟩ := hbl.open (fun _ _ => rfl) om
          have hB7 : Below wr.heap.size wr w7 := hB8.trans (hb7.mono hB8.size)
          have hz7 := (hb7.block wr.heap.size hs8).trans hz8
          refine hK.out _ _ (HKE.out _ hB7) (fun hHeld3 => ?_)
          clear hK K
          refine wpAnyH_ready (rs := [11]) kr zD ?_
          refine AllReadyH.cons rfl (fun K hK => ?_) AllReadyH.nil
          have hth : w7.there wr.heap.size 0 2 := there_blk hz7 rfl
          rw [if_pos zL]
          refine wp_store_mid 61 _ _ rfl wr.heap.size 0 #[.int .u32 x.pc, .slice ai ln.length ci] rfl rfl hth (by show _ = some 2; kernel_rfl) yI ?_
          simp only [Act.put, List.setIfInBounds_toArray, List.set_cons_zero, List.set_cons_succ]
          have hB9 := below_setCells (b := wr.heap.size) om (#[.int .u32 x.pc, .slice ai ln.length ci] : Array Value).toList 0 _ hB7
          have hbl9 : BlockAt (w7.setCells wr.heap.size 0 (#[.int .u32 x.pc, .slice ai ln.length ci] : Array Value).toList) (.slice ai ln.length ci) ln := sl_set_small hbl hz7 zI _ _
          have hz9 := set2_heap hz7 (.int .u32 x.pc) (.slice ai ln.length ci)
          refine hK.out _ _ (HKE.out _ hB9) (fun hHeld4 => ?_)
          clear hK K
          refine wpAnyH_done kr ?_ _
          go_wp2_with fail
          go_meet
          case rel => exact ⟨wr.heap.size, ai, ci, rfl, om, lI ⟨hB9, hbl9, hz9⟩⟩
      case rest =>
        obtain ⟨pb, ai, ci, rfl, hpb, HC⟩ := hcut
        have hsc := HC.out.1.size
        obtain ⟨z0, z1, z2, z3⟩ := HQ01.out
        have e1 := (HC.out.1.cell (p := ⟨w3.heap.size + 1, 1, none⟩) (lt_of_cell z1)).trans z1
        have e2 := (HC.out.1.cell (p := ⟨b, off + j * 2, none⟩) (lt_of_cell z2)).trans z2
        have e3 := (HC.out.1.cell (p := ⟨b, off + j * 2 + 1, none⟩) (lt_of_cell z3)).trans z3
        have p0 : wc.cell? ⟨pb, 0, none⟩ = some (.int .u32 x.pc) := by simp [World.cell?, HC.out.2.2]
        have p1 : wc.cell? ⟨pb, 1, none⟩ = some (.slice ai ln.length ci) := by simp [World.cell?, HC.out.2.2]
        have pf : wc.frozen? ⟨pb, 1, none⟩ = false := by simp [World.frozen?, HC.out.2.2]
        have hpbl := lt_of_cell p0
        have HE3 : Hid (∀ W, Below wc.heap.size wc W → W.cell? ⟨w3.heap.size + 1, 1, none⟩ = some (.slice (some ⟨b, off, none⟩) zs.length k4) ∧ W.cell? ⟨pb, 0, none⟩ = some (.int .u32 x.pc) ∧ W.cell? ⟨pb, 1, none⟩ = some (.slice ai ln.length ci)) := lI (fun W hW => ⟨(hW.cell (p := ⟨w3.heap.size + 1, 1, none⟩) (lt_of_cell e1)).trans e1, (hW.cell (p := ⟨pb, 0, none⟩) hpbl).trans p0, (hW.cell (p := ⟨pb, 1, none⟩) hpbl).trans p1⟩)
        have HPLC : Hid (∀ W, Below wc.heap.size wc W → Calls Try.prog 23 #[.slice (some ⟨b, off, none⟩) j k4, .int .u32 x.pc] W fun e w' => e = .returned (.int .i64 (-1)) ∧ w' = W) := lI (fun W hW => by
          have := place9_any (.slice (some ⟨b, off, none⟩) j k4) (zs.take j) x.pc W (blks_pre (HBK.out.below (HBR.out.trans ((HC.out.1.trans (hW.mono hsc)).mono hsr))) hj)
          rw [HPL.out] at this
          exact this)
        have hxl := List.length_pos_iff.2 HKNE.out
        have k0 : ¬ (x.ins.length : Int) = 0 := om
        have k0' : ((x.ins.length : Int) == 0) = false := beq_eq_false_iff_ne.2 k0
        have k1 : ¬ (ln.length : Int) < (x.ins.length : Int) := by have := HMKE.out.2; omega
        have k1' : decide ((ln.length : Int) < (x.ins.length : Int)) = false := decide_eq_false k1
        have k2 : (j : Int) ≤ (k4 : Int) := om
        have k3 : decide ((0 : Int) ≤ -1) = false := by decide
        have HBC := lI HC.out.1
        have HBLC := lI HC.out.2.1
        have HZC := lI HC.out.2.2
        clear z0 z1 z2 z3 HQ01 HC
        go_upto_region 11 with (fail)
        refine region_quiet_lit (fun W => Below wc.heap.size wc W) kr kr (Below.drew br) ?_
        iterate 5 go_big_quiet_step ((intro _; rfl))
        refine wpQuiet_cell_g zL 59 _ rfl ⟨pb, 1, none⟩ rfl (.slice ai ln.length ci) (fun W hW => by have hc := (HE3.out W hW).2.2; go_simp) ?_
        simp only [Act.put, List.setIfInBounds_toArray, List.set_cons_zero, List.set_cons_succ]
        iterate 5 go_big_quiet_step ((intro _; rfl))
        refine wpQuiet_cell_g zL 53 _ rfl ⟨w3.heap.size + 1, 1, none⟩ rfl (.slice (some ⟨b, off, none⟩) zs.length k4) (fun W hW => by have hc := (HE3.out W hW).1; go_simp) ?_
        simp only [Act.put, List.setIfInBounds_toArray, List.set_cons_zero, List.set_cons_succ]
        iterate 3 go_big_quiet_step ((intro _; rfl))
        refine wpQuiet_cell_g zL 58 _ rfl ⟨pb, 0, none⟩ rfl (.int .u32 x.pc) (fun W hW => by have hc := (HE3.out W hW).2.1; go_simp) ?_
        simp only [Act.put, List.setIfInBounds_toArray, List.set_cons_zero, List.set_cons_succ]
        go_big_quiet_step ((intro hC; exact (HPLC.out _ hC).mono (fun e w'' ⟨he, hb⟩ => ⟨he, by rw [hb]; exact hC⟩)))
        repeat (go_big_quiet_step ((intro _; rfl)))
        refine wpQuiet_nil ?_
        intro w15 hb15
        have hs15 := hb15.size
        obtain ⟨w16, hw16⟩ : ∃ w16, w16 = w15.setCell ⟨pb, 1, none⟩ (.slice ai x.ins.length ci) := ⟨_, rfl⟩
        have g0 := (hb15.cell (p := ⟨pb, 0, none⟩) hpbl).trans p0
        have g1 := (hb15.cell (p := ⟨pb, 1, none⟩) hpbl).trans p1
        have gf := (hb15.frozen (p := ⟨pb, 1, none⟩) hpbl).trans pf
        have hcic : x.ins.length ≤ ci := by
          obtain ⟨_, _, e, hh, -⟩ := HBLC.out.open (fun _ _ => rfl) om
          injection e with _ _ e3
          have := HMKE.out.2
          omega
        have k5 : (x.ins.length : Int) ≤ (ci : Int) := om
        have k6 : (0 : Int) ≤ (x.ins.length : Int) := om
        clear HPLC
        go_upto_region 14 with (fail)
        rw [← hw16]
        have hz15 := (hb15.block pb hpbl).trans HZC.out
        have hb15' : Below wr.heap.size wr w15 := HBC.out.trans (hb15.mono hsc)
        have hne : ∀ g, g ≠ pb → w16.heap[g]? = w15.heap[g]? := fun g hg => by rw [hw16]; exact Below.heap_setCell _ _ _ _ (by show g ≠ pb; exact hg)
        have hb16 : Below wr.heap.size wr w16 := by rw [hw16]; exact hb15'.setCell (p := ⟨pb, 1, none⟩) hpb _
        have hs16 : w15.heap.size ≤ w16.heap.size := by rw [hw16]; simp
        have hA : At w16 pb 0 [.int .u32 x.pc, .slice ai x.ins.length ci] := by
          rw [hw16]
          refine at_cons ?_ (at_cons ?_ at_nil)
          · exact (World.cell?_setCell_other _ _ _ _ zB).trans g0
          · exact World.cell?_setCell_same _ _ _ g1
        have hB : At w16 b (off + j * 2) [.int .u32 x.pc, .slice ax x.ins.length cx] := by
          have h1 := HAT.out
          unfold blist at h1
          rw [HVI.out] at h1
          exact At.below (by exact h1) hb16
        have hcut : Sl wc (.slice ai x.ins.length ci) 5 x.ins.length (x.ins.flatMap ilist) := by
          have := Sl.cut (l := ln) (f := ilist) (s := 5) (fun _ _ => rfl) HBLC.out x.ins.length HMKE.out.2
          rw [HMKE.out.1] at this
          exact this
        have hbl1 : BlockAt w16 (.slice ai x.ins.length ci) x.ins := by
          rw [hw16]
          exact sl_set_small (Sl.below hcut hb15) hz15 (by show (2 : Nat) < 5; decide) 1 [.slice ai x.ins.length ci]
        have hbl2 : BlockAt w16 (.slice ax x.ins.length cx) x.ins := by
          have h1 : BlockAt w15 x.vi x.ins := (HXO.out.below hb15').at_
          rw [HVI.out] at h1
          rw [hw16]
          exact sl_set_small h1 hz15 (by show (2 : Nat) < 5; decide) 1 [.slice ai x.ins.length ci]
        have h11 : w16.cell? ⟨w3.heap.size + 1, 1, none⟩ = some (.slice (some ⟨b, off, none⟩) zs.length k4) := (cell_block (hne _ om) 1).trans ((hb15.cell (p := ⟨w3.heap.size + 1, 1, none⟩) (by show w3.heap.size + 1 < _; omega)).trans e1)
        have HC16 : Hid (∀ W, Below w16.heap.size w16 W → W.cell? ⟨w3.heap.size + 1, 1, none⟩ = some (.slice (some ⟨b, off, none⟩) zs.length k4)) := lI (fun W hW => (hW.cell (p := ⟨w3.heap.size + 1, 1, none⟩) (lt_of_cell h11)).trans h11)
        have HA := lI hA
        have HB := lI hB
        have HSM := lI (fun W (hW : Below w16.heap.size w16 W) => same6_any (.slice ai x.ins.length ci) (.slice ax x.ins.length cx) x.ins x.pc W (Sl.below hbl1 hW) (Sl.below hbl2 hW))
        have HB16 := lI (HBR.out.trans (hb16.mono hsr))
        have hszb : (Try.prog.info? 61).map (·.size) = some (#[.int .u32 x.pc, .slice ai x.ins.length ci] : Array Value).size := by show _ = some 2; kernel_rfl
        have hszb2 : (Try.prog.info? 61).map (·.size) = some (#[.int .u32 x.pc, .slice ax x.ins.length cx] : Array Value).size := by show _ = some 2; kernel_rfl
        have hs416 : w4.heap.size ≤ w16.heap.size := om
        clear hw16 hz15 hb15' hne hb16 hA hB hcut hbl1 hbl2 h11 g0 g1 gf hb15 e1 e2 e3 p0 p1 pf
        refine region_quiet_lit (fun W => Below w16.heap.size w16 W) kr kr (Below.drew br) ?_
        refine wpQuiet_load_at rfl 61 _ rfl pb 0 rfl #[.int .u32 x.pc, .slice ai x.ins.length ci] _ (fun W hW => HA.out.below hW) Try.underlying61 rfl hszb ?_
        simp only [Act.put, List.setIfInBounds_toArray, List.set_cons_zero, List.set_cons_succ]
        go_big_quiet_step ((intro _; rfl))
        refine wpQuiet_cell_g zL 53 _ rfl ⟨w3.heap.size + 1, 1, none⟩ rfl (.slice (some ⟨b, off, none⟩) zs.length k4) (fun W hW => by have hc := HC16.out W hW; go_simp) ?_
        simp only [Act.put, List.setIfInBounds_toArray, List.set_cons_zero, List.set_cons_succ]
        iterate 2 go_big_quiet_step ((intro _; rfl))
        refine wpQuiet_load_at rfl 61 _ rfl b (off + j * 2) rfl #[.int .u32 x.pc, .slice ax x.ins.length cx] _ (fun W hW => HB.out.below hW) Try.underlying61 rfl hszb2 ?_
        simp only [Act.put, List.setIfInBounds_toArray, List.set_cons_zero, List.set_cons_succ]
        go_big_quiet_step ((intro hC; exact (HSM.out _ hC).mono (fun e w'' ⟨he, hb⟩ => ⟨he, hC.trans (hb.mono hC.size)⟩)))
        repeat (go_big_quiet_step ((intro _; rfl)))
        refine wpQuiet_nil ?_
        intro w17 hb17
        go_wp2_with fail
        go_roundw
        case rel => exact ⟨j + 1, by simp, om, lI (HB16.out.trans (hb17.mono hs416))⟩
        case measure => simp [intOf]; omega
    · obtain rfl : j = zs.length := om
      have q1 := (HBR.out.cell (p := ⟨w3.heap.size + 1, 1, none⟩) (lt_of_cell t1)).trans t1
      have q0 := (HBR.out.cell (p := ⟨w3.heap.size + 1, 0, none⟩) (lt_of_cell t0)).trans t0
      have q2 := (HBR.out.cell (p := ⟨w3.heap.size + 1, 2, none⟩) (lt_of_cell t2)).trans t2
      have q3 := (HBR.out.cell (p := ⟨w3.heap.size + 1, 3, none⟩) (lt_of_cell t3)).trans t3
      have j0 := (HBR.out.cell (p := ⟨w.heap.size, 0, none⟩) (lt_of_cell f0)).trans f0
      have j1 := (HBR.out.cell (p := ⟨w.heap.size, 1, none⟩) (lt_of_cell f1)).trans f1
      have i1 : ¬ (zs.length : Int) < (zs.length : Int) := om
      clear s0 t0 t1 t2 t3 f0 f1
      have HB0 := lI HBR.out
      have hsw := HBR.out.size
      obtain ⟨wa, hwa⟩ : ∃ wa, wa = wr := ⟨_, rfl⟩
      rw [← hwa] at HB0 hsw q0 q1 q2 q3 j0 j1 ⊢
      clear hwa HBR hsr hj i1 hjl
      go_wp2_with fail
      go_loopw [14, 13] (fun i d wr => ∃ (k : Nat) (did : Bool), i = .int .i64 k ∧ d = .bool did ∧ k ≤ l.length ∧ Hid (Below wa.heap.size wa wr ∧ (did = true → firstDid m l) ∧ (0 < k → did = false → True))) (fun i _ _ => l.length - (intOf i).toNat)
      case atStart => exact ⟨0, false, rfl, rfl, om, lI ⟨Below.refl _ _, (by intro h; cases h), fun _ _ => trivial⟩⟩
      case round =>
        obtain ⟨k, did, rfl, rfl, hk, HQ⟩ := hrel
        have r0 := (HQ.out.1.cell (p := ⟨w3.heap.size + 1, 0, none⟩) (lt_of_cell q0)).trans q0
        have r1 := (HQ.out.1.cell (p := ⟨w3.heap.size + 1, 1, none⟩) (lt_of_cell q1)).trans q1
        have r2 := (HQ.out.1.cell (p := ⟨w3.heap.size + 1, 2, none⟩) (lt_of_cell q2)).trans q2
        have r3 := (HQ.out.1.cell (p := ⟨w3.heap.size + 1, 3, none⟩) (lt_of_cell q3)).trans q3
        have u0 := (HQ.out.1.cell (p := ⟨w.heap.size, 0, none⟩) (lt_of_cell j0)).trans j0
        have u1 := (HQ.out.1.cell (p := ⟨w.heap.size, 1, none⟩) (lt_of_cell j1)).trans j1
        have HBW : Hid (Below w.heap.size w wr) := lI (HBW4.out.trans ((HB0.out.trans (HQ.out.1.mono hsw)).mono HBW4.out.size))
        by_cases hgo : k < l.length ∧ did = false
        · obtain ⟨hkl, rfl⟩ := hgo
          obtain ⟨bs, offs, rfl, hbsl, hels⟩ := HOS.out (by intro e; rw [e] at hkl; simp at hkl)
          have hats := (hels k hkl).below HBW.out
          have v0 := hats.get (j := 0) (v := .int .i64 l[k].1) rfl
          have v1 := hats.get (j := 1) (v := .int .i64 l[k].2) rfl
          simp only [Nat.add_zero] at v0
          obtain ⟨g1, g2, g3, g4⟩ := (wrong_parts hw0).2.2.2.2.2 _ (List.getElem_mem hkl)
          have hfd : k = 0 → 0 < l[k].2 → (m.harts.getD l[k].1.toNat hart0).state = 0 → (makeS m.mem (m.harts.getD l[k].1.toNat hart0).pc).2 ≠ [] → firstDid m l := fun e h1 h2 h3 => by
            subst e
            match l, hkl, h1, h2, h3 with
            | p :: r, _, h1, h2, h3 => exact ⟨p, r, rfl, h1, h2, h3⟩
          obtain ⟨hx, hhx⟩ : ∃ x, x = l[k].1 := ⟨_, rfl⟩
          obtain ⟨sx, hsx⟩ : ∃ x, x = l[k].2 := ⟨_, rfl⟩
          rw [← hhx] at v0 g1 g2 hfd
          rw [← hsx] at v1 hfd
          clear hels hats hhx hsx g3 g4
          obtain ⟨hn, rfl⟩ := Int.eq_ofNat_of_zero_le g1
          rw [Int.toNat_natCast] at hfd
          have hnl : hn < m.harts.length := om
          obtain ⟨_, _, eh, -, -, -, hoh⟩ := (HM4.out.2.below (HB0.out.trans (HQ.out.1.mono hsw))).open (fun h hh => hlist_length (wf.harts h hh)) om
          injection eh with eh1 _ eh3
          subst eh1
          subst eh3
          obtain ⟨bh, offh, ehh, hbhl, helh⟩ := hoh (by intro e; rw [e] at hnl; simp at hnl)
          have hH := helh hn hnl
          obtain ⟨h, hh⟩ : ∃ h, h = m.harts[hn] := ⟨_, rfl⟩
          have hwfh : h.Wf := by rw [hh]; exact wf.harts _ (List.getElem_mem hnl)
          have hgd : m.harts.getD hn hart0 = h := by rw [hh, List.getD, List.getElem?_eq_getElem hnl]; rfl
          rw [hgd] at hfd
          rw [← hh] at hH
          subst ehh
          have hszh : (hlist h).length = 37 := hlist_length hwfh
          have HH := lI hH
          have HMW := lI (HM4.out.1.below (HB0.out.trans (HQ.out.1.mono hsw)))
          have HFD := lI hfd
          have HWF := lI hwfh
          have hnl' : (hn : Int) < (m.harts.length : Int) := om
          have hn0 : (0 : Int) ≤ (hn : Int) := om
          have hkl' : (k : Int) < (l.length : Int) := om
          have hk0 : (0 : Int) ≤ (k : Int) := om
          clear hH hh hgd hfd helh hoh hwfh
          go_upto_region 20 with (fail)
          go_cut [15] from 123 to 131 (fun t15 wx => ∃ pb : Nat, t15 = .pointer (some ⟨pb, 0, none⟩) ∧ wr.heap.size ≤ pb ∧ Hid (Below wr.heap.size wr wx ∧ At wx pb 0 (hlist h)))
          case first =>
            have hbd : Below wr.heap.size wr wr.drew := Below.drew br
            have HKS : Hid (∀ W, Below wr.heap.size wr W → Below wr.heap.size wr W ∧ W.cell? ⟨w.heap.size, 1, none⟩ = some (.slice (some ⟨bh, offh, none⟩) m.harts.length caph) ∧ W.cell? ⟨bs, offs + k * 2, none⟩ = some (.int .i64 hn)) := lI (fun W hW => ⟨hW, (hW.cell (p := ⟨w.heap.size, 1, none⟩) (lt_of_cell u1)).trans u1, (hW.cell (p := ⟨bs, offs + k * 2, none⟩) (lt_of_cell v0)).trans v0⟩)
            refine wp_region_held_drew (S := fun W => Below wr.heap.size wr W ∧ W.cell? ⟨w.heap.size, 1, none⟩ = some (.slice (some ⟨bh, offh, none⟩) m.harts.length caph) ∧ W.cell? ⟨bs, offs + k * 2, none⟩ = some (.int .i64 hn)) kr (HKS.out _ hbd) (fun hHeld => ?_)
            refine tak 0 (.pointer (some ⟨w.heap.size, 1, none⟩)) ?_
            try simp only [List.getElem_toArray, List.getElem_cons_zero, List.getElem_cons_succ, Act.put, List.setIfInBounds_toArray, List.set_cons_zero, List.set_cons_succ]
            refine tak 1 (.slice (some ⟨bh, offh, none⟩) m.harts.length caph) ?_
            try simp only [List.getElem_toArray, List.getElem_cons_zero, List.getElem_cons_succ, Act.put, List.setIfInBounds_toArray, List.set_cons_zero, List.set_cons_succ]
            refine tak 2 (.slice (some ⟨bs, offs, none⟩) l.length caps) ?_
            try simp only [List.getElem_toArray, List.getElem_cons_zero, List.getElem_cons_succ, Act.put, List.setIfInBounds_toArray, List.set_cons_zero, List.set_cons_succ]
            refine tak 3 (.int .i64 k) ?_
            try simp only [List.getElem_toArray, List.getElem_cons_zero, List.getElem_cons_succ, Act.put, List.setIfInBounds_toArray, List.set_cons_zero, List.set_cons_succ]
            refine tak 4 (.pointer (some ⟨bs, offs + k * 2, none⟩)) ?_
            try simp only [List.getElem_toArray, List.getElem_cons_zero, List.getElem_cons_succ, Act.put, List.setIfInBounds_toArray, List.set_cons_zero, List.set_cons_succ]
            refine tak 5 (.pointer (some ⟨bs, offs + k * 2, none⟩)) ?_
            try simp only [List.getElem_toArray, List.getElem_cons_zero, List.getElem_cons_succ, Act.put, List.setIfInBounds_toArray, List.set_cons_zero, List.set_cons_succ]
            refine tak 6 (.int .i64 hn) ?_
            try simp only [List.getElem_toArray, List.getElem_cons_zero, List.getElem_cons_succ, Act.put, List.setIfInBounds_toArray, List.set_cons_zero, List.set_cons_succ]
            refine tak 7 (.pointer (some ⟨bh, offh + hn * 37, none⟩)) ?_
            try simp only [List.getElem_toArray, List.getElem_cons_zero, List.getElem_cons_succ, Act.put, List.setIfInBounds_toArray, List.set_cons_zero, List.set_cons_succ]
            refine wpAnyH_take (i := 8) (v := .agg (hlist h).toArray) rfl kr kr kr (fun _ _ _ h => h) (yieldsIf_load_mid zL 67 _ rfl bh (offh + hn * 37) rfl (hlist h) _ (fun w' hw j v hv => by have hj := (List.getElem?_eq_some_iff.1 hv).1; rw [(HH.out.below hw.1) j hj, ← hv, List.getElem?_eq_getElem hj]) Try.underlying67 rfl (by rw [hszh]; kernel_rfl)) (by assumption) ?_
            try simp only [List.getElem_toArray, List.getElem_cons_zero, List.getElem_cons_succ, Act.put, List.setIfInBounds_toArray, List.set_cons_zero, List.set_cons_succ]
            refine wpAnyH_ready (rs := [9]) kr zD ?_
            refine AllReadyH.cons rfl (fun K hK => ?_) AllReadyH.nil
            go_simp
            have hB7 : Below wr.heap.size wr (wr.drew.alloc (.cells (hcells hart0) 67)) := hbd.alloc (Nat.le_refl _) _
            refine hK.out _ _ (HKS.out _ hB7) (fun hHeld2 => ?_)
            clear hK K
            have hth : (wr.drew.alloc (.cells (hcells hart0) 67)).there wr.heap.size 0 37 := there_blk (heap_alloc_new wr.drew _) rfl
            refine wpAnyH_ready (rs := [10]) kr zD ?_
            refine AllReadyH.cons rfl (fun K hK => ?_) AllReadyH.nil
            rw [if_pos zL]
            refine wp_store_mid 67 _ _ rfl wr.heap.size 0 (hcells h) rfl rfl (by rw [hcells_size HWF.out]; exact hth) (by rw [hcells_size HWF.out]; kernel_rfl) (Array.all_eq_true_iff_forall_mem.2 (fun v hv => hlist_one h v (by simpa using hv))) ?_
            simp only [Act.put, List.setIfInBounds_toArray, List.set_cons_zero, List.set_cons_succ]
            have hB9 := below_setCells (b := wr.heap.size) (Nat.le_refl _) (hcells h).toList 0 _ hB7
            have hat9 : At ((wr.drew.alloc (.cells (hcells hart0) 67)).setCells wr.heap.size 0 (hcells h).toList) wr.heap.size 0 (hlist h) := by
              have := at_set_all (w := wr.drew.alloc (.cells (hcells hart0) 67)) (b := wr.heap.size) (o := 0) (vs := (hcells h).toList) (by rw [Array.length_toList, hcells_size HWF.out]; exact hth)
              simpa [hcells] using this
            refine hK.out _ _ (HKS.out _ hB9) (fun hHeld4 => ?_)
            clear hK K
            refine wpAnyH_done kr ?_ _
            go_wp2_with fail
            go_meet
            case rel => exact ⟨wr.heap.size, rfl, Nat.le_refl _, lI ⟨hB9, hat9⟩⟩
          case rest =>
            obtain ⟨pb, rfl, hpb, HC⟩ := hcut
            have hsc := HC.out.1.size
            have x0 := (HC.out.1.cell (p := ⟨w.heap.size, 0, none⟩) (lt_of_cell u0)).trans u0
            have y0 := (HC.out.1.cell (p := ⟨bs, offs + k * 2, none⟩) (lt_of_cell v0)).trans v0
            have y1 := (HC.out.1.cell (p := ⟨bs, offs + k * 2 + 1, none⟩) (lt_of_cell v1)).trans v1
            have h32 := HC.out.2.get (hlist_pc HWF.out)
            have h35 := HC.out.2.get (hlist_state HWF.out)
            simp only [Nat.zero_add] at h32 h35
            have HMM := lI (make6_any (.slice aom m.mem.length capm) m.mem h.pc wc (HMW.out.below HC.out.1) HWF.out.pc wf.mem.getD (by have := (wrong_parts hw0).1; omega))
            rw [make_pc (wrong_parts hw0).1 h.pc] at HMM
            obtain ⟨ln, hln⟩ : ∃ y, y = (makeS m.mem h.pc).2 := ⟨_, rfl⟩
            rw [← hln] at HMM HFD
            obtain ⟨hs, hhs⟩ : ∃ y, y = h.state := ⟨_, rfl⟩
            rw [← hhs] at HFD h35
            obtain ⟨hpc, hhpc⟩ : ∃ y, y = h.pc := ⟨_, rfl⟩
            rw [← hhpc] at HMM h32
            have HBC := lI HC.out.1
            clear HC hln hhs hhpc u0 u1 r0 r1 r2 r3 v0 v1
            go_wp2_with fail
            refine HMM.out.mono ?_
            rintro e w8 ⟨⟨vi, rfl, hbl⟩, hb8⟩
            obtain ⟨ai, ci, rfl, -⟩ := hbl.open (fun _ _ => rfl) om
            have hs8 := hb8.size
            obtain ⟨w9, hw9⟩ : ∃ w9, w9 = w8.alloc (.cells #[.int .u32 hpc, .slice ai ln.length ci] 61) := ⟨_, rfl⟩
            have hb9 : Below w8.heap.size w8 w9 := by rw [hw9]; exact Below.alloc br (Nat.le_refl _) _
            have s0 : (w9).cell? ⟨w8.heap.size, 0, none⟩ = some (.int .u32 hpc) := by rw [hw9]; go_cell
            have s1 : (w9).cell? ⟨w8.heap.size, 1, none⟩ = some (.slice ai ln.length ci) := by rw [hw9]; go_cell
            have hb89 := hb8.trans (hb9.mono hs8)
            have z1 := (hb89.cell (p := ⟨bs, offs + k * 2 + 1, none⟩) (lt_of_cell y1)).trans y1
            have z35 := (hb89.cell (p := ⟨pb, 35, none⟩) (lt_of_cell h35)).trans h35
            have HBN := lI (HQ.out.1.trans ((HBC.out.trans (hb89.mono hsc)).mono HQ.out.1.size))
            have HW9 := lI hw9
            clear hw9 hb8 hb9 hb89 hbl x0 y0 y1 h32 h35 HMM
            go_upto_region 22 with (fail)
            rw [← HW9.out]
            by_cases e1 : k = 0
            rotate_left
            · have e1' : ((k : Int) == 0) = false := beq_eq_false_iff_ne.2 om
              have e1'' : ¬ (k : Int) = 0 := om
              go_wp2_with fail
              go_roundw
              case rel => exact ⟨k + 1, false, by simp, rfl, om, lI ⟨HBN.out, (by intro h; cases h), fun _ _ => trivial⟩⟩
              case measure => simp [intOf]; omega
            subst e1
            by_cases e2 : 0 < sx
            rotate_left
            · go_wp2_with fail
              go_roundw
              case rel => exact ⟨1, false, by simp, rfl, om, lI ⟨HBN.out, (by intro h; cases h), fun _ _ => trivial⟩⟩
              case measure => simp [intOf]; omega
            by_cases e3 : hs = 0
            rotate_left
            · have e3' : (hs == 0) = false := beq_eq_false_iff_ne.2 e3
              go_wp2_with fail
              go_roundw
              case rel => exact ⟨1, false, by simp, rfl, om, lI ⟨HBN.out, (by intro h; cases h), fun _ _ => trivial⟩⟩
              case measure => simp [intOf]; omega
            subst e3
            by_cases e4 : 0 < ln.length
            · have e4' : (0 : Int) < (ln.length : Int) := om
              have hdd := HFD.out rfl e2 zT (by intro e; rw [e] at e4; simp at e4)
              go_wp2_with fail
              go_roundw
              case rel => exact ⟨1, true, by simp, rfl, om, lI ⟨HBN.out, fun _ => hdd, fun _ _ => trivial⟩⟩
              case measure => simp [intOf]; omega
            · have e4' : ¬ (0 : Int) < (ln.length : Int) := om
              go_wp2_with fail
              go_roundw
              case rel => exact ⟨1, false, by simp, rfl, om, lI ⟨HBN.out, (by intro h; cases h), fun _ _ => trivial⟩⟩
              case measure => simp [intOf]; omega
        · have htd := HTD.out
          obtain ⟨⟨hpu, hst, -⟩, hdid⟩ := htd
          cases did with
          | false =>
            have hkk : ¬ k < l.length := fun h => hgo ⟨h, rfl⟩
            have hkk' : ¬ (k : Int) < (l.length : Int) := om
            clear hgo hpu hst hdid
            by_cases h64 : rm < 64
            all_goals
              go_wp2_with fail
              go_ret
              exact ⟨rfl, HBW.out⟩
          | true =>
            have hfd := hdid (HQ.out.2.1 zT)
            clear hgo hdid
            by_cases h64 : rm < 64
            · by_cases hkl : k < l.length
              all_goals
                go_wp2_with fail
                go_ret
                exact ⟨rfl, HBW.out⟩
            have hkc : k < l.length ∨ ¬ k < l.length := om
            obtain ⟨zl, hzl⟩ : ∃ x, x = zs.length := ⟨_, rfl⟩
            rw [← hzl] at r1 hfd
            clear hzl
            rcases hkc with hkl | hkl
            all_goals
              cases zl with
              | succ zn =>
                have z1 : (0 : Int) < ((zn + 1 : Nat) : Int) := om
                have z2 : (0 : Int) < (zn : Int) + 1 := om
                clear hfd hpu hst
                go_wp2_with fail
                go_ret
                exact ⟨rfl, HBW.out⟩
              | zero =>
                by_cases hp0 : pu = 0
                · have hs0 : ¬ st = 0 := om
                  have hs1 : (st != 0) = true := by simp [hs0]
                  subst hp0
                  clear hfd hpu hst
                  go_wp2_with fail
                  go_ret
                  exact ⟨by first | rfl | (show Ending.returned (Value.bool (st != 0)) = _; rw [hs1]), HBW.out⟩
                · have hp1 : (pu != 0) = true := by simp [hp0]
                  clear hfd hpu hst
                  go_wp2_with fail
                  go_ret
                  exact ⟨rfl, HBW.out⟩
open RowB in
theorem lifted (os : Os) (started : os.Started) (H : Type) (enc : TypeId × Value → H) :
    ReturnsInHanded {} Try.checked os 8 .any (Rows.engineFreshSpec.pre6 enc Try.prog Try.f8 Rows.engineFreshRow.domain false) (Rows.engineFreshSpec.post enc Try.prog Try.f8 false true false false) := by
  refine RowB.law_lifted (C := Try.checked) (tb := 4) kr started kr kr
    (ChangeSpec.witness6 (enc := enc) (C := Try.checked) false ⟨#[], #[.agg #[.slice none 0 0, .slice none 0 0], .slice none 0 0, .int .i64 0], []⟩ 8 kr kr kr kr)
    rfl (fun ds h => by match ds, h with | [_, _, _], _ => rfl) kr kr kr (of_decide_eq_true kr) ?_
  intro W base args ds ps hval hA _ hz
  have hp : (Try.f8).params.toList = [25, 26, 3] := by kernel_rfl
  rw [hp] at hA hz
  obtain ⟨v0, vs0, d0, ds0, p0, q0, hargs, rfl, rfl, h0, r0⟩ := ChangeShapes.trodAll_cons hA
  obtain ⟨v1, vs1, d1, ds1, p1, q1, rfl, rfl, rfl, h1, r1⟩ := ChangeShapes.trodAll_cons r0
  obtain ⟨v2, vs2, d2, ds2, p2, q2, rfl, rfl, rfl, h2, r2⟩ := ChangeShapes.trodAll_cons r1
  obtain ⟨rfl, rfl, rfl⟩ := ChangeShapes.trodAll_nil r2
  obtain rfl : args = #[v0, v1, v2] := by cases args; simp_all
  obtain ⟨z0, y0⟩ := weights_cons hz
  obtain ⟨z1, y1⟩ := weights_cons y0
  obtain ⟨z2, y2⟩ := weights_cons y1
  have k0 := hval 0 25 v0 kr rfl
  have k1 := hval 1 26 v1 kr rfl
  have k2 := hval 2 3 v2 kr rfl
  obtain ⟨⟨vm, vh, m⟩, rfl, hm, wf, _, _⟩ := opens_machine.arg Try.underlying25 k0 h0 z0
  obtain ⟨⟨vs, l⟩, rfl, hs, hp, _⟩ := opens_picks.argSlice (g := fun p : Value × List (Int × Int) => p.1) Try.underlying26 k1 h1 z1
  obtain ⟨a, rfl, rfl, rfl, wa⟩ := ChangeShapes.open_int Try.underlying3 k2 h2
  exact walk vm vh v1 m l a W hm wf hs hp (Fb.wf_i64 wa)
theorem proved : Rows.EngineFreshSaid :=
  OpenClaim.holds_of_wide 8 Try.f8 rfl rfl rfl rfl rfl rfl rfl ⟨rfl, rfl, rfl, rfl, rfl⟩ rfl rfl rfl rfl rfl kr Try.func8 kr
    (of_decide_eq_true kr) (by unfold Func.isWrapper; first | (rw [if_pos (by decide +kernel)]; kernel_rfl) | (rw [if_neg (by decide +kernel)]; exact ⟨rfl, rfl⟩))
    (fun os started H enc _ => lifted os started H enc)
#print axioms proved
end Go.Proofs.Ytlfnddmncbkjaac.EngineFreshLaw
