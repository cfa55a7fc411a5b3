import Derived.Test.YtlfnddmncbkjaacZMB
import Derived.Test.YtlfnddmncbkjaacZMA
import Derived.Test.YtlfnddmncbkjaacZGP
import Derived.Test.YtlfnddmncbkjaacZWEng3
import Derived.Test.YtlfnddmncbkjaacZGG
import Derived.Test.YtlfnddmncbkjaacZGD
set_option linter.unusedVariables false
set_option linter.unusedSimpArgs false
set_option maxRecDepth 100000
set_option maxHeartbeats 4000000
namespace Go.Proofs.Ytlfnddmncbkjaac.W
open Go.RowKit Fb
theorem core_any {bp bh hc : Nat} {vm vo : Value} {s : St} (k : Nat) (w : World) (h : Bd bp bh hc vm vo 58 w s) (hk : k < s.harts.length) (h4 : s.harts.length ≤ 4) :
    Calls Try.prog 27 #[.pointer (some ⟨bp, 0, none⟩), .int .i64 k] w fun e w' => ∃ n, e = .returned (.pointer (some ⟨w.heap.size, 0, none⟩)) ∧ w' = (w.alloc (.cells #[.pointer (some ⟨bh, k * 37, none⟩), vm, .slice none 0 0, .int .u32 0, .int .u32 0] 76)).drewN n := by
  have c0 := h.c0
  have c1 := h.c1
  obtain ⟨ao, cap, rfl, _⟩ := h.bytes.open
  have hlt := h.lt
  have i0 : (0 : Int) ≤ (k : Int) := om
  have i1 : (k : Int) < (s.harts.length : Int) := om
  have hcp := h.hcap
  have hcc := hcp.2
  unfold maxLen at hcc
  go_enter Try.func27, Try.ntmps27
  go_wp2_with fail
  go_region
  all_goals
    go_wp2_with fail
    go_ret
    first
    | exact ⟨_, rfl, rfl⟩
    | exact ⟨0, rfl, rfl⟩
    | exact ⟨1, rfl, rfl⟩
theorem stored_any {bp bh hc : Nat} (k : Nat) (fr tw : Int) (hs : List Hart) (w : World) (c1 : w.cell? ⟨bp, 1, none⟩ = some (.slice (some ⟨bh, 0, none⟩) hs.length hc)) (hat : At w bh 0 (hs.flatMap hlist)) (hfz : ∀ o, w.frozen? ⟨bh, o, none⟩ = false) (hne : bh ≠ bp)
    (wf : ∀ h ∈ hs, h.Wf) (h4 : hs.length ≤ 4) (hcap : hs.length ≤ hc ∧ hc ≤ maxLen) (hfr : U32 fr) (htw : U32 tw) :
    Calls Try.prog 29 #[.pointer (some ⟨bp, 0, none⟩), .int .i64 k, .int .u32 fr, .int .u32 tw] w fun e w' => e = .returned (.tuple #[]) ∧ At w' bh 0 ((loseTo k fr tw hs.length hs).flatMap hlist) ∧ Chg (fun p => p.block = bh) w w' := by
  obtain ⟨hc1, hc2⟩ := hcap
  unfold maxLen at hc2
  have hlt := lt_of_cell c1
  have HAT := lI hat
  have HFZ := lI hfz
  have HWF := lI wf
  have HLB : Hid (0 < hs.length → bh < w.heap.size) := lI (fun h0 => by
    have := at_hart hat (fun x hx => hlist_length (wf x hx)) h0
    exact lt_of_cell (this.get (hlist_held (wf _ (List.getElem_mem h0)))))
  clear hat hfz wf
  go_enter Try.func29, Try.ntmps29
  go_wp2_with fail
  go_loopw [17] (fun i wr => ∃ n : Nat, i = .int .i64 n ∧ n ≤ hs.length ∧ Hid (At wr bh 0 ((loseTo k fr tw n hs).flatMap hlist) ∧ Chg (fun p => p.block = bh) w wr)) (fun i _ => hs.length - (intOf i).toNat)
  case atStart => exact ⟨0, rfl, om, lI ⟨by rw [loseTo_zero]; exact HAT.out, Chg.refl _ _⟩⟩
  case round =>
    obtain ⟨n, rfl, hn, HR⟩ := hrel
    have c1' := (HR.out.2.cell ⟨bp, 1, none⟩ hlt (by show ¬ bp = bh; omega)).trans c1
    by_cases hlt2 : n < hs.length
    · have hel := at_hart HR.out.1 (fun x hx => hlist_length (mem_loseTo (P := Hart.Wf) HWF.out (fun _ => lose_wf) x hx)) (by rw [loseTo_len]; exact hlt2)
      rw [loseTo_at _ _ _ hlt2] at hel
      have whn := HWF.out hs[n] (List.getElem_mem hlt2)
      have g33 := hel.get (hlist_held whn)
      have g34 := hel.get (hlist_heldAt whn)
      have l33 : bh < wr.heap.size := lt_of_cell g33
      have f33 : wr.frozen? ⟨bh, n * 37 + 33, none⟩ = false := (HR.out.2.frozen ⟨bh, n * 37 + 33, none⟩ (HLB.out om)).trans (HFZ.out _)
      have f34 : wr.frozen? ⟨bh, n * 37 + 34, none⟩ = false := (HR.out.2.frozen ⟨bh, n * 37 + 34, none⟩ (HLB.out om)).trans (HFZ.out _)
      have i0 : (0 : Int) ≤ (n : Int) := om
      have i1 : (n : Int) < (hs.length : Int) := om
      have HNX : Hid (∀ x, x = lose fr tw hs[n] → n ≠ k → loseTo k fr tw (n + 1) hs = (loseTo k fr tw n hs).set n x) := lI (fun x e hk => by rw [e]; exact loseTo_succ fr tw hs hlt2 hk)
      have HSE : Hid (n = k → loseTo k fr tw (n + 1) hs = loseTo k fr tw n hs) := lI (fun e => by subst e; exact loseTo_self n fr tw hs)
      have HKP : Hid (lose fr tw hs[n] = hs[n] → loseTo k fr tw (n + 1) hs = loseTo k fr tw n hs) := lI (fun e => loseTo_keep fr tw hs hlt2 e)
      have HLO : Hid (lose fr tw hs[n] = if (hs[n].held && decide (fr < (hs[n].heldAt + 4) % 4294967296) && decide (hs[n].heldAt < tw)) = true then { hs[n] with held := false, heldAt := 0 } else hs[n]) := lI rfl
      have hha : U32 hs[n].heldAt := whn.heldAt
      have HEL := lI hel
      have HWN := lI whn
      clear hel whn
      obtain ⟨x, hx⟩ : ∃ x, x = hs[n] := ⟨_, rfl⟩
      rw [← hx] at g33 g34 HNX HKP HLO hha HEL HWN
      have HX := lI hx
      clear hx
      obtain ⟨ha1, ha2⟩ := hha
      obtain ⟨fr1, fr2⟩ := hfr
      obtain ⟨tw1, tw2⟩ := htw
      by_cases hnk : (n : Int) = k
      · go_wp2_with fail
        go_roundw
        case rel => exact ⟨n + 1, by (first | (simp; done) | (simp; omega)), om, lI ⟨by rw [HSE.out om]; exact HR.out.1, HR.out.2⟩⟩
        case measure => simp [intOf]; omega
      cases hheld : x.held with
      | false =>
        rw [hheld] at g33
        go_wp2_with fail
        go_roundw
        case rel => exact ⟨n + 1, by simp, om, lI ⟨by rw [HKP.out (by rw [HLO.out, hheld]; rfl)]; exact HR.out.1, HR.out.2⟩⟩
        case measure => simp [intOf]; omega
      | true =>
        rw [hheld] at g33
        by_cases h1 : fr < (x.heldAt + 4) % 4294967296
        · by_cases h2 : x.heldAt < tw
          · go_wp2_with fail
            go_roundw
            case rel =>
              have wx := HWN.out
              have hxl : (hlist x).length = 37 := hlist_length wx
              have a1 := HEL.out.set 33 om (.bool false)
              rw [← hlist_setHeld wx.len false] at a1
              have wx2 : ({ x with held := false } : Hart).Wf := ⟨wx.len, wx.regs, wx.pc, wx.heldAt, wx.state, wx.cause⟩
              have a2 := a1.set 34 (by rw [hlist_length wx2]; omega) (.int .u32 0)
              rw [← hlist_setHeldAt (h := ({ x with held := false } : Hart)) wx.len 0] at a2
              have wx3 : ({ x with held := false, heldAt := 0 } : Hart).Wf := ⟨wx.len, wx.regs, wx.pc, (⟨by decide, by decide⟩ : U32 0), wx.state, wx.cause⟩
              refine ⟨n + 1, by simp, om, lI ⟨?_, (HR.out.2.setCell ⟨bh, n * 37 + 33, none⟩ (.bool false) (fun _ => rfl)).setCell ⟨bh, n * 37 + 34, none⟩ (.int .u32 0) (fun _ => rfl)⟩⟩
              rw [HNX.out { x with held := false, heldAt := 0 } (by rw [HLO.out, hheld]; simp [h1, h2]) om]
              refine at_harts_set HR.out.1 (fun x hx => hlist_length (mem_loseTo (P := Hart.Wf) HWF.out (fun _ => lose_wf) x hx)) (hlist_length wx3) a2 (fun o ho => ?_)
              rw [World.cell?_setCell_other _ _ _ _ zB, World.cell?_setCell_other _ _ _ _ zB]
            case measure => simp [intOf]; omega
          · go_wp2_with fail
            go_roundw
            case rel => exact ⟨n + 1, by simp, om, lI ⟨by rw [HKP.out (by rw [HLO.out, hheld]; simp [h2])]; exact HR.out.1, HR.out.2⟩⟩
            case measure => simp [intOf]; omega
        · go_wp2_with fail
          go_roundw
          case rel => exact ⟨n + 1, by simp, om, lI ⟨by rw [HKP.out (by rw [HLO.out, hheld]; simp [h1])]; exact HR.out.1, HR.out.2⟩⟩
          case measure => simp [intOf]; omega
    · obtain rfl : n = hs.length := om
      go_wp2_with fail
      go_end0
      exact ⟨rfl, HR.out.1, HR.out.2⟩
end Go.Proofs.Ytlfnddmncbkjaac.W
namespace Go.Proofs.Ytlfnddmncbkjaac.Fb
open Go.RowKit
theorem stale_all {fr tw : Int} : ∀ {zs : List BlkD}, zs.any (staleB fr tw) = false → zs.filter (fun x => !staleB fr tw x) = zs := fun h =>
  List.filter_eq_self.2 (fun x hx => by
    rw [List.any_eq_false] at h
    have := h x hx
    simpa using this)
end Go.Proofs.Ytlfnddmncbkjaac.Fb
namespace Go.Proofs.Ytlfnddmncbkjaac.W
open Go.RowKit Fb
theorem efind_any {A : Nat → Prop} {ep mp bp : Nat} {w : World} {room pu st : Int} {v : Value} {zs : List BlkD} {n : Nat} (hA : ∀ q, A q → ep < q) (hN : ∀ q, w.heap.size ≤ q → A q) (vm : Value) (mem : List Int) (hB : EnB A 105 61 110 ep mp bp w room pu st v zs) (hC : EnC A Try.prog 58 196 ep mp w zs n) (htot : (zs.length : Int) + pu + st = n ∧ 0 ≤ pu ∧ 0 ≤ st) (hok : EngOk mem room zs) (pc : Int) (hpc : U32 pc)
    (hvm : w.cell? ⟨bp, 0, none⟩ = some vm) (hbp : bp < ep) (hm : Ints .u8 w vm mem) (hby : Bytes mem) (hml : mem.length ≤ 4096) (hn : n ≤ 1000000) :
    Calls Try.prog 60 #[.pointer (some ⟨ep, 0, none⟩), .int .u32 pc] w fun e w' => FindPost A Try.prog 58 105 61 110 196 ep mp bp w room st mem pc n e w' := by
  by_cases hlt : placeN zs pc < zs.length
  · refine (efind_yes hA hN hB hC pc hpc hlt).mono ?_
    rintro e w' ⟨⟨vi, vc, l, hmem, rfl, h1, h2, h3⟩, hb⟩
    have h0 : 0 < zs.length := List.length_pos_of_mem hmem
    exact ⟨vi, vc, l, rfl, h1, Fr.of_below hb (fun j h4 h5 => om), .inr ⟨hok.kept _ hmem, h2, h3, v, zs, pu, n, hB.below hb, hC.below hb, htot, hok, Nat.le_refl _, om, om⟩⟩
  · exact efind_no hA hN vm mem hB hC htot hok pc hpc hlt hvm hbp hm hby hml hn
theorem estored_any {A : Nat → Prop} {ep mp bp bh hc : Nat} {w : World} {room pu st : Int} {v : Value} {zs : List BlkD} {n : Nat} (hA : ∀ q, A q → ep < q) (hN : ∀ q, w.heap.size ≤ q → A q) (hB : EnB A 105 61 110 ep mp bp w room pu st v zs) (hC : EnC A Try.prog 58 196 ep mp w zs n) (htot : (zs.length : Int) + pu + st = n ∧ 0 ≤ pu ∧ 0 ≤ st) (hins : ∀ x ∈ zs, x.ins.length ≤ 16) (hzl : zs.length ≤ 64) (hn : n ≤ 1000000)
    (k : Nat) (fr tw : Int) (hs : List Hart) (hbp : bp < ep) (hbh : bh < bp) (hne : mp ≠ bh) (c1 : w.cell? ⟨bp, 1, none⟩ = some (.slice (some ⟨bh, 0, none⟩) hs.length hc)) (hat : At w bh 0 (hs.flatMap hlist)) (hfz : ∀ o, w.frozen? ⟨bh, o, none⟩ = false)
    (wf : ∀ h ∈ hs, h.Wf) (h4 : hs.length ≤ 4) (hcap : hs.length ≤ hc ∧ hc ≤ maxLen) (hfr : U32 fr) (htw : U32 tw) :
    Calls Try.prog 91 #[.pointer (some ⟨ep, 0, none⟩), .int .i64 k, .agg #[.int .u32 fr, .int .u32 tw]] w fun e w' => e = .returned (.tuple #[]) ∧ ∃ w1, At w1 bh 0 ((loseTo k fr tw hs.length hs).flatMap hlist) ∧ Chg (fun p => p.block = bh) w w1 ∧ Fr (fun j => j = ep) w1 w' ∧
      ∃ v' zs' st', EnB A 105 61 110 ep mp bp w' room pu st' v' zs' ∧ EnC A Try.prog 58 196 ep mp w' zs' n ∧ ((zs'.length : Int) + pu + st' = n ∧ 0 ≤ pu ∧ 0 ≤ st') ∧ zs'.map BlkD.abs = (zs.filter (fun x => !staleB fr tw x)).map BlkD.abs := by
  have HA := lI hA
  have HN := lI hN
  clear hA hN
  have hep := hB.lt
  have hbhl : bh < w.heap.size := om
  obtain ⟨w1, hw1⟩ : ∃ w1, w1 = w.alloc (.cells #[.int .u32 fr, .int .u32 tw] 158) := ⟨_, rfl⟩
  have hb1 : Below w.heap.size w w1 := by rw [hw1]; exact Fb.blw
  have hs1 : w1.heap.size = w.heap.size + 1 := by rw [hw1]; simp
  have r0 : (w1).cell? ⟨w.heap.size, 0, none⟩ = some (.int .u32 fr) := by rw [hw1]; go_cell
  have r1 : (w1).cell? ⟨w.heap.size, 1, none⟩ = some (.int .u32 tw) := by rw [hw1]; go_cell
  have B1 := hB.below hb1
  have e0 := B1.at_.get (j := 0) rfl
  simp only [Nat.zero_add] at e0
  have hbd : Below w1.heap.size w1 w1.drew := Below.drew br
  have HST := lI (stored_any k fr tw hs w1.drew ((hb1.cell (p := ⟨bp, 1, none⟩) (lt_of_cell c1)).trans c1) (hat.below (Below.drew hb1)) (fun o => (hb1.frozen (p := ⟨bh, o, none⟩) hbhl).trans (hfz o)) om wf h4 hcap hfr htw)
  have HB1 := lI B1
  have HC1 := lI (hC.below hb1)
  have HBW1 := lI hb1
  have HW1 := lI hw1
  have HTOT := lI htot
  have HINS := lI hins
  have HFR := lI hfr
  have HTW := lI htw
  clear hB hC htot hins hb1 hw1 B1 c1 hat hfz wf hcap hfr htw
  go_enter Try.func91, Try.ntmps91
  go_upto_region 1 with (fail)
  rw [← HW1.out]
  refine wp_region_held_drew (S := fun W => W.cell? ⟨ep, 0, none⟩ = some (.pointer (some ⟨bp, 0, none⟩)) ∧ W.cell? ⟨w.heap.size, 0, none⟩ = some (.int .u32 fr) ∧ W.cell? ⟨w.heap.size, 1, none⟩ = some (.int .u32 tw)) kr ⟨e0, r0, r1⟩ (fun hHeld => ?_)
  refine tak 0 (.pointer (some ⟨ep, 0, none⟩)) ?_
  try simp only [List.getElem_toArray, List.getElem_cons_zero, List.getElem_cons_succ, Act.put, List.setIfInBounds_toArray, List.set_cons_zero, List.set_cons_succ]
  refine tak 1 (.pointer (some ⟨ep, 0, none⟩)) ?_
  try simp only [List.getElem_toArray, List.getElem_cons_zero, List.getElem_cons_succ, Act.put, List.setIfInBounds_toArray, List.set_cons_zero, List.set_cons_succ]
  refine tak 2 (.pointer (some ⟨ep, 0, none⟩)) ?_
  try simp only [List.getElem_toArray, List.getElem_cons_zero, List.getElem_cons_succ, Act.put, List.setIfInBounds_toArray, List.set_cons_zero, List.set_cons_succ]
  refine tak 3 (.pointer (some ⟨bp, 0, none⟩)) ?_
  try simp only [List.getElem_toArray, List.getElem_cons_zero, List.getElem_cons_succ, Act.put, List.setIfInBounds_toArray, List.set_cons_zero, List.set_cons_succ]
  refine tak 4 (.int .i64 k) ?_
  try simp only [List.getElem_toArray, List.getElem_cons_zero, List.getElem_cons_succ, Act.put, List.setIfInBounds_toArray, List.set_cons_zero, List.set_cons_succ]
  refine tak 5 (.pointer (some ⟨w.heap.size, 0, none⟩)) ?_
  try simp only [List.getElem_toArray, List.getElem_cons_zero, List.getElem_cons_succ, Act.put, List.setIfInBounds_toArray, List.set_cons_zero, List.set_cons_succ]
  refine tak 6 (.int .u32 fr) ?_
  try simp only [List.getElem_toArray, List.getElem_cons_zero, List.getElem_cons_succ, Act.put, List.setIfInBounds_toArray, List.set_cons_zero, List.set_cons_succ]
  refine tak 7 (.pointer (some ⟨w.heap.size, 1, none⟩)) ?_
  try simp only [List.getElem_toArray, List.getElem_cons_zero, List.getElem_cons_succ, Act.put, List.setIfInBounds_toArray, List.set_cons_zero, List.set_cons_succ]
  refine tak 8 (.int .u32 tw) ?_
  try simp only [List.getElem_toArray, List.getElem_cons_zero, List.getElem_cons_succ, Act.put, List.setIfInBounds_toArray, List.set_cons_zero, List.set_cons_succ]
  refine wpAnyH_ready (rs := [9]) kr zD ?_
  refine AllReadyH.cons rfl (fun K hK => ?_) AllReadyH.nil
  go_simp
  refine HST.out.mono ?_
  rintro e w2 ⟨rfl, hat2, hg2⟩
  have hs2 : w1.heap.size ≤ w2.heap.size := hg2.size
  have e02 : w2.cell? ⟨ep, 0, none⟩ = some (.pointer (some ⟨bp, 0, none⟩)) := (hg2.cell ⟨ep, 0, none⟩ (by show ep < w1.heap.size; omega) (by show ¬ ep = bh; omega)).trans e0
  have r02 : w2.cell? ⟨w.heap.size, 0, none⟩ = some (.int .u32 fr) := (hg2.cell ⟨w.heap.size, 0, none⟩ yB (by show ¬ w.heap.size = bh; omega)).trans r0
  have r12 : w2.cell? ⟨w.heap.size, 1, none⟩ = some (.int .u32 tw) := (hg2.cell ⟨w.heap.size, 1, none⟩ yB (by show ¬ w.heap.size = bh; omega)).trans r1
  refine hK.out _ _ ⟨e02, r02, r12⟩ (fun hHeld2 => ?_)
  clear hK K
  refine wpAnyH_done kr ?_ _
  have hbk : ∀ j, j < w1.heap.size → j ≠ bh → w2.heap[j]? = w1.heap[j]? := fun j h1 h2 => hg2.block j h1 (fun o => h2)
  have B2 : EnB A 105 61 110 ep mp bp w2 room pu st v zs := HB1.out.keep (TM := 196) HA.out (fun q h1 h2 => hbk q h1 om)
  have C2 : EnC A Try.prog 58 196 ep mp w2 zs n := HC1.out.keep (TB := 61) (TI := 110) HA.out (fun q h1 h2 => hbk q h1 om)
  have HG2 : Hid (Chg (fun p => p.block = bh) w w2) := lI ((Chg.of_below HBW1.out (fun p => p.block = bh)).trans (S' := fun p => p.block = bh) ⟨hg2.os, hg2.tape, hg2.output, hg2.size, hg2.block, hg2.cell, hg2.frozen⟩ (fun _ _ h => h))
  have HAT2 := lI hat2
  obtain ⟨av, cv, rfl, hcv, hmv, -, -⟩ := B2.blks.1.open (fun _ _ => rfl) om
  unfold maxLen at hmv
  have x1 := B2.at_.get (j := 1) rfl
  have x2 := B2.at_.get (j := 2) rfl
  have x3 := B2.at_.get (j := 3) rfl
  have x4 := B2.at_.get (j := 4) rfl
  simp only [Nat.zero_add] at x1 x2 x3 x4
  have HCT := lI (econtains_any (.slice av zs.length cv) zs fr tw w.heap.size w2 B2.blks r02 r12 (fun x hx => by have := HINS.out x hx; omega) HFR.out HTW.out)
  have HB2 := lI B2
  have HC2 := lI C2
  clear hat2 hg2 hbk B2 C2 hHeld hHeld2 e0 r0 r1 hbd HST HB1 HC1 HBW1
  go_wp2_with fail
  refine HCT.out.mono ?_
  rintro e w3 ⟨rfl, hb3⟩
  have hs3 := hb3.size
  have hepl : ep < w2.heap.size := om
  have y1 := (hb3.cell (p := ⟨ep, 1, none⟩) hepl).trans x1
  have y2 := (hb3.cell (p := ⟨ep, 2, none⟩) hepl).trans x2
  have y3 := (hb3.cell (p := ⟨ep, 3, none⟩) hepl).trans x3
  have y4 := (hb3.cell (p := ⟨ep, 4, none⟩) hepl).trans x4
  have q0 := (hb3.cell (p := ⟨w.heap.size, 0, none⟩) (lt_of_cell r02)).trans r02
  have q1 := (hb3.cell (p := ⟨w.heap.size, 1, none⟩) (lt_of_cell r12)).trans r12
  have HB3 := lI hb3
  have HEB3 := lI (HB2.out.below hb3)
  have HEC3 := lI (HC2.out.below hb3)
  clear hb3 x1 x2 x3 x4 e02 r02 r12 HCT
  obtain ⟨an, han⟩ : ∃ a, a = zs.any (staleB fr tw) := ⟨_, rfl⟩
  rw [← han]
  have HAN := lI han
  clear han
  cases an with
  | false =>
    go_wp2_with fail
    go_end0
    exact ⟨rfl, w2, HAT2.out, HG2.out, Fr.of_below HB3.out (fun j h1 h2 => om), _, zs, st, HEB3.out, HEC3.out, HTOT.out, by rw [stale_all HAN.out.symm]⟩
  | true =>
    have HBR : Hid (∀ W, Below w3.heap.size w3 W → W.cell? ⟨w.heap.size, 0, none⟩ = some (.int .u32 fr) ∧ W.cell? ⟨w.heap.size, 1, none⟩ = some (.int .u32 tw)) := lI (fun W hW => ⟨(hW.cell (p := ⟨w.heap.size, 0, none⟩) (lt_of_cell q0)).trans q0, (hW.cell (p := ⟨w.heap.size, 1, none⟩) (lt_of_cell q1)).trans q1⟩)
    have hbd : Below w3.heap.size w3 w3.drew := Below.drew br
    have HSTA := lI (cstale_far room (.slice av zs.length cv) pu st zs fr tw w3.drew (HEB3.out.below hbd).blks (fun x hx => by have := HINS.out x hx; omega) om HFR.out HTW.out)
    go_wp2_with fail
    refine wp_region_held_drew (S := fun W => W.cell? ⟨w.heap.size, 0, none⟩ = some (.int .u32 fr) ∧ W.cell? ⟨w.heap.size, 1, none⟩ = some (.int .u32 tw)) kr (HBR.out _ hbd) (fun hHeld => ?_)
    refine tak 0 (.pointer (some ⟨ep, 0, none⟩)) ?_
    try simp only [List.getElem_toArray, List.getElem_cons_zero, List.getElem_cons_succ, Act.put, List.setIfInBounds_toArray, List.set_cons_zero, List.set_cons_succ]
    refine tak 1 (.pointer (some ⟨ep, 0, none⟩)) ?_
    try simp only [List.getElem_toArray, List.getElem_cons_zero, List.getElem_cons_succ, Act.put, List.setIfInBounds_toArray, List.set_cons_zero, List.set_cons_succ]
    refine tak 2 (.pointer (some ⟨ep, 0, none⟩)) ?_
    try simp only [List.getElem_toArray, List.getElem_cons_zero, List.getElem_cons_succ, Act.put, List.setIfInBounds_toArray, List.set_cons_zero, List.set_cons_succ]
    refine tak 3 (.pointer (some ⟨ep, 1, none⟩)) ?_
    try simp only [List.getElem_toArray, List.getElem_cons_zero, List.getElem_cons_succ, Act.put, List.setIfInBounds_toArray, List.set_cons_zero, List.set_cons_succ]
    refine tak 5 (.agg #[.int .u32 fr, .int .u32 tw]) ?_
    try simp only [List.getElem_toArray, List.getElem_cons_zero, List.getElem_cons_succ, Act.put, List.setIfInBounds_toArray, List.set_cons_zero, List.set_cons_succ]
    refine wpAnyH_ready (rs := [4]) kr zD ?_
    refine AllReadyH.cons rfl (fun K hK => ?_) AllReadyH.nil
    go_simp
    refine hK.out _ _ (HBR.out _ hbd) (fun hHeld2 => ?_)
    clear hK K
    refine wpAnyH_ready (rs := [6]) kr zD ?_
    refine AllReadyH.cons rfl (fun K hK => ?_) AllReadyH.nil
    go_simp
    refine HSTA.out.mono ?_
    rintro e w4 ⟨⟨v4, zs4, rfl, hbl4, habs4, hfar4, htyp4⟩, hb4⟩
    obtain ⟨a4, c4, rfl, -⟩ := hbl4.1.open (fun _ _ => rfl) om
    have hle : zs4.length ≤ zs.length := by rw [len_abs habs4]; exact List.length_filter_le _ _
    obtain ⟨sn, hsn⟩ : ∃ sn, sn = wrap64 (st + ((zs.length : Int) - (zs4.length : Int))) := ⟨_, rfl⟩
    have hsn2 : sn = st + ((zs.length : Int) - (zs4.length : Int)) := by rw [hsn]; have := HTOT.out; unfold wrap64; omega
    rw [← hsn]
    clear hsn
    have hb34 : Below w3.heap.size w3 w4 := hbd.trans hb4
    have hs4 := hb34.size
    refine hK.out _ _ (HBR.out _ hb34) (fun hHeld3 => ?_)
    clear hK K
    refine tak 7 (.pointer (some ⟨ep, 0, none⟩)) ?_
    try simp only [List.getElem_toArray, List.getElem_cons_zero, List.getElem_cons_succ, Act.put, List.setIfInBounds_toArray, List.set_cons_zero, List.set_cons_succ]
    refine tak 8 (.pointer (some ⟨ep, 1, none⟩)) ?_
    try simp only [List.getElem_toArray, List.getElem_cons_zero, List.getElem_cons_succ, Act.put, List.setIfInBounds_toArray, List.set_cons_zero, List.set_cons_succ]
    refine wpAnyH_ready (rs := [9]) kr zD ?_
    refine AllReadyH.cons rfl (fun K hK => ?_) AllReadyH.nil
    have B4 := HEB3.out.below hb34
    have hth := B4.there
    rw [if_pos zL]
    refine wp_store_mid 55 _ _ rfl ep 1 #[.int .i64 room, .slice a4 zs4.length c4, .int .i64 pu, .int .i64 sn] rfl rfl hth (by show _ = some 4; kernel_rfl) yI ?_
    simp only [Act.put, List.setIfInBounds_toArray, List.set_cons_zero, List.set_cons_succ]
    obtain ⟨w5, hw5⟩ : ∃ w5, w5 = w4.setCells ep 1 (#[.int .i64 room, .slice a4 zs4.length c4, .int .i64 pu, .int .i64 sn] : Array Value).toList := ⟨_, rfl⟩
    have B5 : EnB A 105 61 110 ep mp bp w5 room pu sn (.slice a4 zs4.length c4) zs4 := by rw [hw5]; exact B4.store HA.out hbl4 (hfar4.toA (fun q h => HN.out q (by have h' : w3.heap.size ≤ q := h; omega))) htyp4
    have F45 : Fr (fun j => j = ep) w4 w5 := by rw [hw5]; exact Fr.setCells (S := fun j => j = ep) (Fr.refl _ _) ep rfl _ _
    have C4 := HEC3.out.below hb34
    have hmp := C4.1
    have C5 : EnC A Try.prog 58 196 ep mp w5 zs4 n := (C4.keep (TB := 61) (TI := 110) HA.out (fun k hk h => F45.block k hk om)).sub (fun x hx => by
      obtain ⟨y, hy, e2⟩ := List.mem_map.1 (show x.abs ∈ (zs.filter (fun x => !staleB fr tw x)).map BlkD.abs by rw [← habs4]; exact List.mem_map_of_mem hx)
      have e3 : y.pc = x.pc ∧ y.ins = x.ins := by unfold BlkD.abs at e2; injection e2 with a b; exact ⟨a, b⟩
      exact ⟨y, (List.mem_filter.1 hy).1, e3.1.symm, e3.2.symm⟩)
    have g0 := (cell_block (F45.block w.heap.size om (by show w.heap.size ≠ ep; omega)) 0).trans (HBR.out _ hb34).1
    have g1 := (cell_block (F45.block w.heap.size om (by show w.heap.size ≠ ep; omega)) 1).trans (HBR.out _ hb34).2
    rw [← hw5]
    refine hK.out _ _ ⟨g0, g1⟩ (fun hHeld4 => ?_)
    clear hK K
    refine wpAnyH_done kr ?_ _
    have HF := lI (Fr.trans (S' := fun j => j = ep) (S := fun j => j = ep) (Fr.of_below (HB3.out.trans (hb34.mono hs3)) (fun j h1 h2 => om)) F45 (fun j _ h => h))
    have HB5 := lI B5
    have HC5 := lI C5
    have HAB := lI habs4
    clear B5 C5 F45 B4 C4 hth hw5 hHeld hHeld2 hHeld3 hHeld4 hb34 hb4 hbl4 hfar4 htyp4 habs4
    go_wp2_with fail
    go_end0
    exact ⟨rfl, w2, HAT2.out, HG2.out, HF.out, _, zs4, sn, HB5.out, HC5.out, by have := HTOT.out; omega, HAB.out⟩
end Go.Proofs.Ytlfnddmncbkjaac.W
namespace Go.Proofs.Ytlfnddmncbkjaac.Fb
open Go.RowKit
section
variable {rp cp hb po bp bh hc k : Nat} {vm vo : Value} {TU TS TR TE TB TI TM TC : TypeId} {w w' : World} {o0 o : List Int} {fr tw steps : Int} {s : St}
theorem R8.initE {h : Hart} {m o : List Int} {bf bt : Int} (hc : CoreAt cp hb po vm TU w ⟨h, m, o, 0, 0⟩) (wf : h.Wf) (hb' : Bytes m) (hl : m.length ≤ 4096) (ho : ∀ x ∈ o, U32 x) (hol : o.length ≤ 50000) (h1 : U32 bf) (h2 : U32 bt) (hw : w' = w.alloc (.cells (r8list (runE h m o bf bt) cp (.slice none 0 0) steps).toArray TR)) :
    R8 w.heap.size cp hb po vm TU TS TR w' (runE h m o bf bt) (.slice none 0 0) steps 0 0 := by
  have hB : Below w.heap.size w w' := by rw [hw]; exact Below.alloc br (Nat.le_refl _) _
  refine ⟨runE_wf wf hb' hl ho h1 h2, by show o.length ≤ _; omega, hl, u32_0, u32_0, hc.below hB, hc.lt, by rw [hw]; exact at_alloc w _ TR (0, 0), fun o => ?_, ⟨_, _, by rw [hw]; exact heap_alloc_new _ _⟩, World.ownsRow_nil _ _ _ _⟩
  rw [hw]; unfold World.frozen?; rw [heap_alloc_new]; simp
theorem Wk.go8 {d : CoreD} (h : Wk bp bh hc cp k vm vo TU o0 o fr tw w s) (wf : s.Wf) (hd : d.h.Wf) (hc' : CoreAt cp bh (k * 37) vm TU w' d) (hg : G8 rp TU cp bh (k * 37) vm w w') :
    Wk bp bh hc cp k vm vo TU o0 d.out d.fr d.tw w' ⟨s.harts.set k d.h, d.m, s.out, s.steps⟩ := by
  have b1 := h.b1
  have b2 := h.b2
  have hl := h.clt
  have e := hg.block bp om om (fun e => by have := h.mlt _ e; omega) (.inl h.b2)
  have ek : (⟨s.harts.set k d.h, d.m, s.out, s.steps⟩ : St).hart k = d.h := by
    rw [St.hart_at (by show k < (s.harts.set k d.h).length; rw [List.length_set]; exact h.kl)]
    show (s.harts.set k d.h)[k]'_ = _
    rw [List.getElem_set, if_pos rfl]
  refine ⟨by rw [ek]; exact hc', h.b1, h.b2, (cell_block e _).trans h.c0, (cell_block e _).trans (by rw [h.c1]; simp), (cell_block e _).trans h.c2, (cell_block e _).trans h.c3, fun o => (frozen_block e o).trans (h.frz o),
    at_harts_set h.harts (fun x hx => hlist_length (wf.harts x hx)) (hlist_length hd) hc'.hart hg.cell, h.mlt, owns_block h.own (fun g hg' => ?_), h.vlt, by show k < (s.harts.set k d.h).length; rw [List.length_set]; exact h.kl, by show (s.harts.set k d.h).length ≤ _ ∧ _; rw [List.length_set]; exact h.hcap⟩
  have := h.own.lt g hg'
  exact hg.block g this.2 om (fun e => by have := h.mlt _ e; omega) (.inl (h.vlt g hg'))
theorem Wk.out (h : Wk bp bh hc cp k vm vo TU o0 o fr tw w s) (x : List Int) : Wk bp bh hc cp k vm vo TU o0 o fr tw w { s with out := x } := ⟨h.core, h.b1, h.b2, h.c0, h.c1, h.c2, h.c3, h.frz, h.harts, h.mlt, h.own, h.vlt, h.kl, h.hcap⟩
end
theorem loseAll_snoc (k : Nat) (a : List (Int × Int)) (p : Int × Int) (hs : List Hart) : loseAll k (a ++ [p]) hs = loseTo k p.1 p.2 (loseAll k a hs).length (loseAll k a hs) := by
  rw [loseAll_append]; rfl
theorem staleAll_append : ∀ (a b : List (Int × Int)) (bl : List BlkD), staleAll (a ++ b) bl = staleAll b (staleAll a bl)
  | [], _, _ => rfl
  | p :: r, b, bl => by rw [List.cons_append, staleAll, staleAll, staleAll_append r b]
theorem staleAll_snoc (a : List (Int × Int)) (p : Int × Int) (bl : List BlkD) : staleAll (a ++ [p]) bl = (staleAll a bl).filter (fun x => !staleB p.1 p.2 x) := by
  rw [staleAll_append]; rfl
theorem estale_abs {fr tw : Int} : ∀ {ys l : List BlkD}, ys.map BlkD.abs = l.map BlkD.abs → (ys.filter (fun x => !staleB fr tw x)).map BlkD.abs = (l.filter (fun x => !staleB fr tw x)).map BlkD.abs
  | [], [], _ => rfl
  | [], _ :: _, h => by simp at h
  | _ :: _, [], h => by simp at h
  | y :: ys, x :: l, h => by
    simp only [List.map_cons, List.cons.injEq] at h
    obtain ⟨h1, h2⟩ := h
    have ih := estale_abs (fr := fr) (tw := tw) h2
    have e : y.pc = x.pc ∧ y.ins = x.ins := by unfold BlkD.abs at h1; injection h1 with a b; exact ⟨a, b⟩
    have e2 : staleB fr tw y = staleB fr tw x := by unfold staleB; rw [e.1, e.2]
    rw [List.filter_cons, List.filter_cons, e2]
    split
    · rw [List.map_cons, List.map_cons, h1, ih]
    · exact ih
end Go.Proofs.Ytlfnddmncbkjaac.Fb
namespace Go.Proofs.Ytlfnddmncbkjaac.W
open Go.RowKit Fb
theorem divide_any (a b : Int) (w : World) (ha : -2147483648 ≤ a) (ha' : a ≤ 2147483647) :
    Calls Try.prog 119 #[.int .i32 a, .int .i32 b] w fun e w' => e = .returned (.tuple #[.int .i32 (divq a b), .int .i32 (divr a b)]) ∧ ∃ n, w' = w.drewN n := by
  by_cases h0 : b = 0
  · subst h0
    go_enter Try.func119, Try.ntmps119
    go_wp2
    go_ret2
    exact ⟨rfl, 0, rfl⟩
  · by_cases h1 : b = -1
    · subst h1
      go_enter Try.func119, Try.ntmps119
      go_wp2
      go_ret2
      exact ⟨rfl, 0, rfl⟩
    · have hz : (b == 0) = false := by simpa using h0
      have hz1 : (b == -1) = false := by simpa using h1
      go_enter Try.func119, Try.ntmps119
      go_wp2
      go_quiet (fail)
      go_wp2
      go_ret2
      refine ⟨?_, nq, rfl⟩
      have e1 : wrap32 (a.tdiv b) = divq a b := by
        rw [divq, if_neg h0, if_neg h1]
        have := tdiv_small a b ha ha' h0 h1
        unfold wrap32; omega
      have e2 : a.tmod b = divr a b := by rw [divr, if_neg h0, if_neg h1]
      rw [← e1, ← e2]
      rfl
theorem quotient_any (op a b : Int) (w : World) (ha : 0 ≤ a) (ha' : a < 4294967296) (hb : 0 ≤ b) (hb' : b < 4294967296) :
    Calls Try.prog 103 #[.int .i64 op, .int .u32 a, .int .u32 b] w fun e w' => e = .returned (.int .u32 (quot op a b)) ∧ ∃ n, w' = w.drewN n := by
  have hs := wrap32_small a
  by_cases h0 : b = 0
  · have hz : (b == 0) = true := by simpa using h0
    have H0 := lI h0
    clear h0
    go_enter Try.func103, Try.ntmps103
    go_wp2_with (go_at_call 119; refine (divide_any _ _ _ hs.1 hs.2).mono ?_; rintro e w' ⟨rfl, n, rfl⟩)
    all_goals go_ret
    all_goals refine ⟨ret_int ?_, n, rfl⟩
    all_goals have h0 := H0.out
    all_goals simp [quot, *]
  · have hz : (b == 0) = false := by simpa using h0
    go_enter Try.func103, Try.ntmps103
    go_wp2_with (go_at_call 119; refine (divide_any _ _ _ hs.1 hs.2).mono ?_; rintro e w' ⟨rfl, n, rfl⟩)
    all_goals go_ret
    all_goals refine ⟨ret_int ?_, n, rfl⟩
    all_goals simp [quot, *]
theorem alu_any (op a b : Int) (w : World) (ha : 0 ≤ a) (ha' : a < 4294967296) (hb : 0 ≤ b) (hb' : b < 4294967296) :
    Calls Try.prog 73 #[.int .i64 op, .int .u32 a, .int .u32 b] w fun e w' => e = .returned (.int .u32 (alu op a b)) ∧ ∃ n, w' = w.drewN n := by
  have hm : bits .and .u32 b 31 = b % 32 := mask32 b 5 om 31 rfl hb hb'
  have hs := wrap32_small a
  have hs2 := wrap32_small b
  go_enter Try.func73, Try.ntmps73
  go_wp2_with (first | (go_at_call 103; refine (quotient_any _ _ _ _ ha ha' hb hb').mono ?_; rintro e w' ⟨rfl, n, rfl⟩) | go_in)
  all_goals go_ret
  all_goals refine ⟨ret_int ?_, by first | exact ⟨0, rfl⟩ | exact ⟨_, rfl⟩⟩
  all_goals first
    | (simp [alu, *]; done)
    | (rw [mulh_eq _ _ hs om]; simp [alu, *]; done)
    | (rw [mulhu_eq _ _ ha ha' hb hb']; simp [alu, *]; done)
theorem holds_any (op a b : Int) (w : World) (ha : 0 ≤ a) (ha' : a < 4294967296) (hb : 0 ≤ b) (hb' : b < 4294967296) :
    Calls Try.prog 71 #[.int .i64 op, .int .u32 a, .int .u32 b] w fun e w' => e = .returned (.bool (holds op a b)) ∧ w = w' := by
  go_enter Try.func71, Try.ntmps71
  go_wp2
  all_goals go_ret
  all_goals refine ⟨ret_bool ?_, rfl⟩
  all_goals simp [holds, *]
theorem amo_any (op a b : Int) (w : World) (ha : 0 ≤ a) (ha' : a < 4294967296) (hb : 0 ≤ b) (hb' : b < 4294967296) :
    Calls Try.prog 104 #[.int .i64 op, .int .u32 a, .int .u32 b] w fun e w' => e = .returned (.int .u32 (amo op a b)) ∧ w = w' := by
  go_enter Try.func104, Try.ntmps104
  go_wp2
  all_goals go_ret
  all_goals refine ⟨ret_int ?_, rfl⟩
  all_goals simp only [beq_iff_eq, beq_eq_false_iff_ne, ne_eq] at *
  all_goals first | (subst_vars; first | rfl | (simp [amo]; done) | (simp [amo]; omega)) | (simp [amo, *]; done) | (simp [amo, *]; omega)
section
variable {cp hb ho : Nat} {vm : Value} {d : CoreD} {w : World}
theorem set_any (h : CoreAt cp hb ho vm 58 w d) (wf : d.h.Wf) (k : Nat) (hk : k < 32) (x : Int) :
    Calls Try.prog 70 #[.pointer (some ⟨cp, 0, none⟩), .int .i64 k, .int .u32 x] w fun e w' => e = .returned (.tuple #[]) ∧ CoreAt cp hb ho vm 58 w' (d.set k x) ∧ Cgo cp hb ho vm 58 w w' := by
  have hp := h.ptr
  have hc := h.hart.get (hlist_reg wf k hk)
  have hf := h.hfz (ho + k)
  have H := lI h
  clear h
  go_enter Try.func70, Try.ntmps70
  by_cases hk0 : k = 0
  · subst hk0
    go_wp2_with fail
    go_end0
    refine ⟨rfl, ?_, Cgo.refl _⟩
    have e : d.set ((0 : Nat) : Int) x = d := by simp [CoreD.set, Hart.setReg]
    rw [e]
    exact H.out
  · have hk1 : (0 : Int) < k := om
    go_wp2_with fail
    go_end0
    refine ⟨rfl, ?_, Cgo.setHart _ k om _⟩
    have e : d.set (k : Int) x = { d with h := { d.h with regs := d.h.regs.set k x } } := by simp [CoreD.set, Hart.setReg]; omega
    rw [e]
    exact H.out.setHart k _ _ (hlist_setReg wf.len k hk x) (by rw [hlist_length wf]; omega)
theorem trap_any (h : CoreAt cp hb ho vm 58 w d) (wf : d.h.Wf) (c : Int) :
    Calls Try.prog 47 #[.pointer (some ⟨cp, 0, none⟩), .int .i64 c] w fun e w' => e = .returned (.tuple #[]) ∧ CoreAt cp hb ho vm 58 w' (d.trap c) ∧ Cgo cp hb ho vm 58 w w' := by
  have hp := h.ptr
  have h35 := h.hart.get (hlist_state wf)
  have h36 := h.hart.get (hlist_cause wf)
  have f35 := h.hfz (ho + 35)
  have f36 := h.hfz (ho + 36)
  have hne := h.hbl
  have H := lI h
  clear h
  go_enter Try.func47, Try.ntmps47
  go_wp2_with fail
  go_region
  all_goals go_wp2_with fail
  all_goals go_end0
  all_goals exact ⟨rfl, ((H.out.setHart 35 _ _ (hlist_setState wf.len 2) (by rw [hlist_length wf]; omega)).setHart 36 _ _ (hlist_setCause (h := { d.h with state := 2 }) wf.len c) (by have := hlist_length wf; unfold hlist at *; simp at *; omega)).below (Below.drew br), ((Cgo.setHart _ 35 om _).trans (Cgo.setHart _ 36 om _)).drew⟩
theorem cput_any (h : CoreAt cp hb ho vm 58 w d) (wf : d.Wf) (op at_ x : Int) (ha : U32 at_) (hx : U32 x) :
    Calls Try.prog 72 #[.pointer (some ⟨cp, 0, none⟩), .int .i64 op, .int .u32 at_, .int .u32 x] w fun e w' => e = .returned (.bool (mStoreOk d.m op at_)) ∧ CoreAt cp hb ho vm 58 w' (d.put op at_ x) ∧ Cgo cp hb ho vm 58 w w' := by
  have hp := h.ptr
  have hm := h.mem
  have hfr := h.fr
  have htw := h.tw
  have f3 := h.frz 3
  have f4 := h.frz 4
  have hne := h.hbl
  have H := lI h
  have HA := lI ha
  have HX := lI hx
  obtain ⟨ao, cap, rfl, hc1, hc2, _, hopen⟩ := h.bytes.open
  clear h ha hx
  cases hok : mStoreOk d.m op at_ with
  | false =>
    have e : d.put op at_ x = d := by unfold CoreD.put; rw [hok]; rfl
    rw [e]
    have hc := put_no ao d.m.length cap op at_ x w om HA.out hok
    go_enter Try.func72, Try.ntmps72
    go_wp2_with fail
    refine hc.mono ?_
    rintro e w' ⟨rfl, rfl⟩
    go_wp2_with fail
    go_ret
    exact ⟨rfl, H.out, Cgo.refl _⟩
  | true =>
    have hpos := storeOk_pos HA.out hok
    obtain ⟨b, off, rfl, hbl, hcell⟩ := hopen (by intro e; rw [e] at hpos; simp at hpos)
    obtain ⟨m1, m2, m3, m4⟩ := H.out.mfz b off _ _ rfl
    obtain ⟨k, rfl⟩ := Int.eq_ofNat_of_zero_le HA.out.1
    have hc := put_yes b off cap d.m op k x w om HA.out HX.out hok (fun i hi => ⟨_, hcell i hi⟩) (fun i _ => m4 _)
    have hk : k + (msize op).toNat ≤ d.m.length := by
      simp [mStoreOk, there] at hok
      have := HA.out.1
      omega
    have H2 := lI (H.out.putW k x (msize op).toNat hk hpos)
    have C2 : Hid (Cgo cp hb ho (.slice (some ⟨b, off, none⟩) d.m.length cap) 58 w (putW w b off k x (msize op).toNat)) := lI (Cgo.putW w rfl m2 k x _)
    have HP : Hid (d.put op k x = { d with m := lay d.m k x (msize op).toNat, fr := (k : Int), tw := ((k : Int) + msize op) % 4294967296 }) := lI (by
      unfold CoreD.put; rw [if_pos hok]; congr 1; unfold mStore; rw [if_pos hok])
    have hop : op = 16 ∨ op = 17 ∨ op = 18 := by simp [mStoreOk, stores] at hok; omega
    clear hcell hopen m1 m2 m3 m4 hp hm hfr htw f3 f4
    generalize putW w b off k x (msize op).toNat = w2 at *
    have hp := H2.out.ptr
    have hm := H2.out.mem
    have hfr := H2.out.fr
    have htw := H2.out.tw
    have f3 := H2.out.frz 3
    have f4 := H2.out.frz 4
    have hp0 := H.out.ptr
    have hm0 := H.out.mem
    have hku := HA.out.2
    have ix0 : ∀ W, (Instr.index 181 (.agg #[.int .u32 1, .int .u32 2, .int .u32 4]) (.int .i64 0)).run Try.prog W = .ok (.int .u32 1) W := fun _ => by kernel_rfl
    have ix1 : ∀ W, (Instr.index 181 (.agg #[.int .u32 1, .int .u32 2, .int .u32 4]) (.int .i64 1)).run Try.prog W = .ok (.int .u32 2) W := fun _ => by kernel_rfl
    have ix2 : ∀ W, (Instr.index 181 (.agg #[.int .u32 1, .int .u32 2, .int .u32 4]) (.int .i64 2)).run Try.prog W = .ok (.int .u32 4) W := fun _ => by kernel_rfl
    rcases hop with rfl | rfl | rfl
    all_goals
      go_enter Try.func72, Try.ntmps72
      go_upto_region 1 with (fail)
      clear hp hm hfr htw f3 f4
      go_wp2_with fail
      refine hc.mono ?_
      rintro e w' ⟨rfl, rfl⟩
      clear hp0 hm0
      have hp := H2.out.ptr
      have hfr := H2.out.fr
      have htw := H2.out.tw
      have f3 := H2.out.frz 3
      have f4 := H2.out.frz 4
      go_wp2_with fail
      go_ret
      refine ⟨rfl, ?_, (C2.out.trans (Cgo.setCore _ hne _ _)).trans (Cgo.setCore _ hne _ _)⟩
      rw [HP.out]
      exact (H2.out.setFr _).setTo _
theorem call_any (h : CoreAt cp hb ho vm 58 w d) (wf : d.Wf) (hlen : d.out.length < 1099511627776) :
    Calls Try.prog 76 #[.pointer (some ⟨cp, 0, none⟩)] w fun e w' => e = .returned (.bool (callS d).2) ∧ CoreAt cp hb ho vm 58 w' (callS d).1 ∧ Cgo cp hb ho vm 58 w w' := by
  have hp := h.ptr
  have h17 := h.hart.get (hlist_reg wf.h 17 om)
  have h10 := h.hart.get (hlist_reg wf.h 10 om)
  have h35 := h.hart.get (hlist_state wf.h)
  have f35 := h.hfz (ho + 35)
  have f2 := h.frz 2
  have hne := h.hbl
  have hlt := h.lt
  have H := lI h
  have hT := lI (trap_any h wf.h 5)
  have hC : callS d = if d.h.regs.getD 17 0 = 0 then ({ d with h := { d.h with state := 1 } }, false) else if d.h.regs.getD 17 0 = 1 then ({ d with out := d.out ++ [d.h.regs.getD 10 0] }, true) else (d.trap 5, false) := rfl
  rw [hC]
  clear hC h
  generalize d.h.regs.getD 17 0 = x17 at *
  generalize d.h.regs.getD 10 0 = x10 at *
  by_cases h0 : x17 = 0
  · rw [if_pos h0]
    subst h0
    go_enter Try.func76, Try.ntmps76
    go_wp2_with fail
    go_ret
    exact ⟨rfl, H.out.setHart 35 _ _ (hlist_setState wf.h.len 1) yE, Cgo.setHart _ 35 om _⟩
  · rw [if_neg h0]
    by_cases h1 : x17 = 1
    · rw [if_pos h1]
      subst h1
      obtain ⟨v, hv1, hv3⟩ := H.out.row
      have hfar : Hid (some cp ≠ v.ownBlock) := lI (fun e => by have := (hv3.lt cp e.symm).1; omega)
      have hlo : ∀ k, v.ownBlock = some k → cp + 1 ≤ k := fun k e => (hv3.lt k e).1
      have HLO := lI hlo
      have H3 := lI hv3
      have HV := lI (And.intro hv1 f2)
      obtain ⟨i0, hi, hz0, hz1, hz2⟩ := info_parts (show (Try.prog.info? 58).map (fun i => (i.zero, i.size, i.bytes)) = some (some (.int .u32 0), 1, 4) by kernel_rfl)
      clear hv3 hlo
      go_enter Try.func76, Try.ntmps76
      go_wp2_with fail
      go_region_law (
        refine step_append_lies _ zL _ _ _ zL (cp + 1) 58 i0 _ 1 4 Try.underlying27 hi hz0 hz1 hz2 rfl om v d.out.length _ zL ((H3.out.alloc _).drew)
            ⟨w.heap.size, 0, none⟩ 1 1 [.int .u32 x10] zL zL (World.news_of_block (cs := #[.int .u32 x10]) (t := 58) (fr := (0, 0)) (heap_alloc_new w _)) yI
            om yF om zJ (w.heap.size + 1) zD ?_
        intro gg cap w1 hown1 hgrow hat hgl
        have hc1 : w1.cell? ⟨cp, 2, none⟩ = some v := (hgrow.cell_far _ zJ hfar.out).trans (by simp [World.cell?_alloc_some, HV.out.1])
        have hc0 : w1.cell? ⟨cp, 0, none⟩ = some (.pointer (some ⟨hb, ho, none⟩)) := (hgrow.cell_far _ zJ hfar.out).trans (by simp [World.cell?_alloc_some, hp])
        have hf1 : w1.frozen? ⟨cp, 2, none⟩ = false := (hgrow.frozen_far _ zJ hfar.out).trans ((frozen_da (p := ⟨cp, 2, none⟩) _ hlt).trans HV.out.2))
      all_goals
        go_wp2
        go_ret
        refine ⟨rfl, H.out.append (((Below.alloc br om _).drew).grown hgrow zJ HLO.out) (by simpa using hown1), ?_⟩
        exact (((Cgo.of_below (Below.alloc br (Nat.le_refl _) _) om).drew).trans (Cgo.grown hne ((H3.out.alloc _).drew) hgrow zJ)).trans (Cgo.setCore _ hne _ _)
    · rw [if_neg h1]
      go_enter Try.func76, Try.ntmps76
      go_wp2_with fail
      refine hT.out.mono ?_
      rintro e w1 ⟨rfl, hc, hg⟩
      go_wp2_with fail
      go_ret
      exact ⟨rfl, hc, hg⟩
end
end Go.Proofs.Ytlfnddmncbkjaac.W
