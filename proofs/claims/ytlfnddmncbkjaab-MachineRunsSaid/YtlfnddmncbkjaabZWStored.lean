/- machine.Board: Core, Stored, walked. -/
import Derived.Test.YtlfnddmncbkjaabZMB
import Derived.Test.YtlfnddmncbkjaabZMA
namespace Go.Proofs.Ytlfnddmncbkjaab.W
set_option linter.unusedVariables false
set_option linter.unusedSimpArgs false
open Go.RowKit Fb
set_option maxRecDepth 100000 in
set_option maxHeartbeats 800000 in
theorem core_any {bp bh hc : Nat} {vm vo : Value} {s : St} (k : Nat) (w : World) (h : Bd bp bh hc vm vo 34 w s) (hk : k < s.harts.length) (h4 : s.harts.length ≤ 4) :
    Calls Try.prog 94 #[.pointer (some ⟨bp, 0, none⟩), .int .i64 k] w fun e w' => ∃ n, e = .returned (.pointer (some ⟨w.heap.size, 0, none⟩)) ∧ w' = (w.alloc (.cells #[.pointer (some ⟨bh, k * 37, none⟩), vm, .slice none 0 0, .int .u32 0, .int .u32 0] 149)).drewN n := by
  have c0 := h.c0
  have c1 := h.c1
  obtain ⟨ao, cap, rfl, _⟩ := h.bytes.open
  have hlt := h.lt
  have i0 : (0 : Int) ≤ (k : Int) := by omega
  have i1 : (k : Int) < (s.harts.length : Int) := by omega
  have hcp := h.hcap
  have hcc := hcp.2
  unfold maxLen at hcc
  go_enter Try.func94, Try.ntmps94
  go_wp2_with fail
  go_region
  all_goals
    go_wp2_with fail
    go_ret
    first
    | exact ⟨_, rfl, rfl⟩
    | exact ⟨0, rfl, rfl⟩
    | exact ⟨1, rfl, rfl⟩
set_option maxRecDepth 100000 in
set_option maxHeartbeats 800000 in
theorem stored_any {bp bh hc : Nat} (k : Nat) (fr tw : Int) (hs : List Hart) (w : World) (c1 : w.cell? ⟨bp, 1, none⟩ = some (.slice (some ⟨bh, 0, none⟩) hs.length hc)) (hat : At w bh 0 (hs.flatMap hlist)) (hfz : ∀ o, w.frozen? ⟨bh, o, none⟩ = false) (hne : bh ≠ bp)
    (wf : ∀ h ∈ hs, h.Wf) (h4 : hs.length ≤ 4) (hcap : hs.length ≤ hc ∧ hc ≤ maxLen) (hfr : U32 fr) (htw : U32 tw) :
    Calls Try.prog 95 #[.pointer (some ⟨bp, 0, none⟩), .int .i64 k, .int .u32 fr, .int .u32 tw] w fun e w' => e = .returned (.tuple #[]) ∧ At w' bh 0 ((loseTo k fr tw hs.length hs).flatMap hlist) ∧ Chg (fun p => p.block = bh) w w' := by
  obtain ⟨hc1, hc2⟩ := hcap
  unfold maxLen at hc2
  have hlt := lt_of_cell c1
  have HAT := Lib.hid hat
  have HFZ := Lib.hid hfz
  have HWF := Lib.hid wf
  have HLB : Hid (0 < hs.length → bh < w.heap.size) := Lib.hid (fun h0 => by
    have := at_hart hat (fun x hx => hlist_length (wf x hx)) h0
    exact lt_of_cell (this.get (hlist_held (wf _ (List.getElem_mem h0)))))
  clear hat hfz wf
  go_enter Try.func95, Try.ntmps95
  go_wp2_with fail
  go_loopw [17] (fun i wr => ∃ n : Nat, i = .int .i64 n ∧ n ≤ hs.length ∧ Hid (At wr bh 0 ((loseTo k fr tw n hs).flatMap hlist) ∧ Chg (fun p => p.block = bh) w wr)) (fun i _ => hs.length - (intOf i).toNat)
  case atStart => exact ⟨0, rfl, by omega, Lib.hid ⟨by rw [loseTo_zero]; exact HAT.out, Chg.refl _ _⟩⟩
  case round =>
    obtain ⟨n, rfl, hn, HR⟩ := hrel
    have c1' := (HR.out.2.cell ⟨bp, 1, none⟩ hlt (by show ¬ bp = bh; omega)).trans c1
    by_cases hlt2 : n < hs.length
    · have hel := at_hart HR.out.1 (fun x hx => hlist_length (mem_loseTo (P := Hart.Wf) HWF.out (fun _ => lose_wf) x hx)) (by rw [loseTo_len]; exact hlt2)
      rw [loseTo_at _ _ _ hlt2] at hel
      have whn := HWF.out hs[n] (List.getElem_mem hlt2)
      have g33 := hel.get (hlist_held whn)
      have g34 := hel.get (hlist_heldAt whn)
      have l33 : bh < wr.heap.size := lt_of_cell g33
      have f33 : wr.frozen? ⟨bh, n * 37 + 33, none⟩ = false := (HR.out.2.frozen ⟨bh, n * 37 + 33, none⟩ (HLB.out (by omega))).trans (HFZ.out _)
      have f34 : wr.frozen? ⟨bh, n * 37 + 34, none⟩ = false := (HR.out.2.frozen ⟨bh, n * 37 + 34, none⟩ (HLB.out (by omega))).trans (HFZ.out _)
      have i0 : (0 : Int) ≤ (n : Int) := by omega
      have i1 : (n : Int) < (hs.length : Int) := by omega
      have HNX : Hid (∀ x, x = lose fr tw hs[n] → n ≠ k → loseTo k fr tw (n + 1) hs = (loseTo k fr tw n hs).set n x) := Lib.hid (fun x e hk => by rw [e]; exact loseTo_succ fr tw hs hlt2 hk)
      have HSE : Hid (n = k → loseTo k fr tw (n + 1) hs = loseTo k fr tw n hs) := Lib.hid (fun e => by subst e; exact loseTo_self n fr tw hs)
      have HKP : Hid (lose fr tw hs[n] = hs[n] → loseTo k fr tw (n + 1) hs = loseTo k fr tw n hs) := Lib.hid (fun e => loseTo_keep fr tw hs hlt2 e)
      have HLO : Hid (lose fr tw hs[n] = if (hs[n].held && decide (fr < (hs[n].heldAt + 4) % 4294967296) && decide (hs[n].heldAt < tw)) = true then { hs[n] with held := false, heldAt := 0 } else hs[n]) := Lib.hid rfl
      have hha : U32 hs[n].heldAt := whn.heldAt
      have HEL := Lib.hid hel
      have HWN := Lib.hid whn
      clear hel whn
      obtain ⟨x, hx⟩ : ∃ x, x = hs[n] := ⟨_, rfl⟩
      rw [← hx] at g33 g34 HNX HKP HLO hha HEL HWN
      have HX := Lib.hid hx
      clear hx
      obtain ⟨ha1, ha2⟩ := hha
      obtain ⟨fr1, fr2⟩ := hfr
      obtain ⟨tw1, tw2⟩ := htw
      by_cases hnk : (n : Int) = k
      · go_wp2_with fail
        go_roundw
        case rel => exact ⟨n + 1, by (first | (simp; done) | (simp; omega)), by omega, Lib.hid ⟨by rw [HSE.out (by omega)]; exact HR.out.1, HR.out.2⟩⟩
        case measure => simp [intOf]; omega
      cases hheld : x.held with
      | false =>
        rw [hheld] at g33
        go_wp2_with fail
        go_roundw
        case rel => exact ⟨n + 1, by simp, by omega, Lib.hid ⟨by rw [HKP.out (by rw [HLO.out, hheld]; rfl)]; exact HR.out.1, HR.out.2⟩⟩
        case measure => simp [intOf]; omega
      | true =>
        rw [hheld] at g33
        by_cases h1 : fr < (x.heldAt + 4) % 4294967296
        · by_cases h2 : x.heldAt < tw
          · go_wp2_with fail
            go_roundw
            case rel =>
              have wx := HWN.out
              have hxl : (hlist x).length = 37 := hlist_length wx
              have a1 := HEL.out.set 33 (by omega) (.bool false)
              rw [← hlist_setHeld wx.len false] at a1
              have wx2 : ({ x with held := false } : Hart).Wf := ⟨wx.len, wx.regs, wx.pc, wx.heldAt, wx.state, wx.cause⟩
              have a2 := a1.set 34 (by rw [hlist_length wx2]; omega) (.int .u32 0)
              rw [← hlist_setHeldAt (h := ({ x with held := false } : Hart)) wx.len 0] at a2
              have wx3 : ({ x with held := false, heldAt := 0 } : Hart).Wf := ⟨wx.len, wx.regs, wx.pc, (⟨by decide, by decide⟩ : U32 0), wx.state, wx.cause⟩
              refine ⟨n + 1, by simp, by omega, Lib.hid ⟨?_, (HR.out.2.setCell ⟨bh, n * 37 + 33, none⟩ (.bool false) (fun _ => rfl)).setCell ⟨bh, n * 37 + 34, none⟩ (.int .u32 0) (fun _ => rfl)⟩⟩
              rw [HNX.out { x with held := false, heldAt := 0 } (by rw [HLO.out, hheld]; simp [h1, h2]) (by omega)]
              refine at_harts_set HR.out.1 (fun x hx => hlist_length (mem_loseTo (P := Hart.Wf) HWF.out (fun _ => lose_wf) x hx)) (hlist_length wx3) a2 (fun o ho => ?_)
              rw [World.cell?_setCell_other _ _ _ _ (by intro e; injection e with _ e2; omega), World.cell?_setCell_other _ _ _ _ (by intro e; injection e with _ e2; omega)]
            case measure => simp [intOf]; omega
          · go_wp2_with fail
            go_roundw
            case rel => exact ⟨n + 1, by simp, by omega, Lib.hid ⟨by rw [HKP.out (by rw [HLO.out, hheld]; simp [h2])]; exact HR.out.1, HR.out.2⟩⟩
            case measure => simp [intOf]; omega
        · go_wp2_with fail
          go_roundw
          case rel => exact ⟨n + 1, by simp, by omega, Lib.hid ⟨by rw [HKP.out (by rw [HLO.out, hheld]; simp [h1])]; exact HR.out.1, HR.out.2⟩⟩
          case measure => simp [intOf]; omega
    · obtain rfl : n = hs.length := by omega
      go_wp2_with fail
      go_end0
      exact ⟨rfl, HR.out.1, HR.out.2⟩
end Go.Proofs.Ytlfnddmncbkjaab.W
