import Derived.Test.YtlfnddmncbkjaaaZMA
import Derived.Test.YtlfnddmncbkjaaaZWRef4Bytes
set_option linter.unusedVariables false
set_option linter.unusedSimpArgs false
set_option maxRecDepth 100000
set_option maxHeartbeats 4000000
namespace Go.Proofs.Ytlfnddmncbkjaaa.W
open Go.RowKit Fb
theorem hart_lits (h : Hart) (wf : h.Wf) : ∃ la, Try.prog.keyLits 3 86 (hcells h).toList = some la := by
  have h1 := keyLits_arr (P := Try.prog) (d := 0) Try.underlying84 Try.underlying33 (by kernel_rfl) (by kernel_rfl) h.regs wf.len (fun x hx => wf_of_u32 (wf.regs x hx))
  have c1 : Try.prog.cellsOf 84 = 32 := by kernel_rfl
  have c2 : Try.prog.cellsOf 33 = 1 := by kernel_rfl
  have c3 : Try.prog.cellsOf 4 = 1 := by kernel_rfl
  have c4 : Try.prog.cellsOf 3 = 1 := by kernel_rfl
  have c5 : Try.prog.cellsOf 86 = 37 := by kernel_rfl
  have t1 : (hlist h).take 32 = h.regs.map (Value.int .u32) := by simp [hlist, wf.len]
  have t2 : ((hlist h).drop 32) = [.int .u32 h.pc, .bool h.held, .int .u32 h.heldAt, .int .i64 h.state, .int .i64 h.cause] := by simp [hlist, wf.len]
  have d3 : ((hlist h).drop 33) = [.bool h.held, .int .u32 h.heldAt, .int .i64 h.state, .int .i64 h.cause] := by rw [show 33 = 32 + 1 from rfl, ← List.drop_drop, t2]; rfl
  have d4 : ((hlist h).drop 34) = [.int .u32 h.heldAt, .int .i64 h.state, .int .i64 h.cause] := by rw [show 34 = 32 + 2 from rfl, ← List.drop_drop, t2]; rfl
  have d5 : ((hlist h).drop 35) = [.int .i64 h.state, .int .i64 h.cause] := by rw [show 35 = 32 + 3 from rfl, ← List.drop_drop, t2]; rfl
  have d6 : ((hlist h).drop 36) = [.int .i64 h.cause] := by rw [show 36 = 32 + 4 from rfl, ← List.drop_drop, t2]; rfl
  have w1 := wf_of_u32 wf.pc
  have w2 := wf_of_u32 wf.heldAt
  have w3 := wf_of_i64 wf.state
  have w4 := wf_of_i64 wf.cause
  unfold Program.keyLits
  rw [Try.underlying86]
  simp only [hcells_toList, hlist_length wf, c5, true_and]
  rw [if_pos (by simp)]
  simp only [List.mapM_cons, List.mapM_nil, c1, c2, c3, c4, List.drop_zero, t1, t2, d3, d4, d5, d6, h1]
  simp [Program.keyLits, Try.underlying33, Try.underlying4, Try.underlying3, w1, w2, w3, w4]
theorem hart_neq (h : Hart) (wf : h.Wf) (w : World) : (binOp .neq 86 (.agg (hcells h)) (.agg (hcells h))).run Try.prog w = .ok (.bool false) w := by
  obtain ⟨la, hl⟩ := hart_lits h wf
  exact neq_same w (m := 3) (by omega) (by kernel_rfl) (by unfold Value.formed; rw [Try.underlying86]; simp only [hcells_size wf]; kernel_rfl) hl
theorem words4_same (v v' : Value) (l : List Int) (w : World) (hv : Ints .u32 w v l) (hv' : Ints .u32 w v' l) :
    Calls Try.prog 82 #[v, v'] w fun e w' => e = .returned (.bool true) ∧ Below w.heap.size w w' := by
  obtain ⟨ao, cap, rfl, hc, hm, _, ho⟩ := hv.open
  obtain ⟨ao', cap', rfl, hc', hm', _, ho'⟩ := hv'.open
  unfold maxLen at hm hm'
  have HO := Lib.hid ho
  have HO' := Lib.hid ho'
  clear ho ho' hv hv'
  go_enter Try.func82, Try.ntmps82
  go_wp2
  go_loopw [5] (fun i wr => ∃ k : Nat, i = .int .i64 k ∧ k ≤ l.length ∧ ∃ n, wr = w.drewN n) (fun i _ => l.length - (intOf i).toNat)
  case atStart => exact ⟨0, rfl, by omega, 0, rfl⟩
  case round =>
    obtain ⟨k, rfl, hk, n, rfl⟩ := hrel
    by_cases hlt : k < l.length
    · obtain ⟨b, off, rfl, _, hcell⟩ := HO.out (by intro e; rw [e] at hlt; simp at hlt)
      obtain ⟨b', off', rfl, _, hcell'⟩ := HO'.out (by intro e; rw [e] at hlt; simp at hlt)
      have c1 := hcell k hlt
      have c2 := hcell' k hlt
      have i1 : (0 : Int) ≤ (k : Int) := by omega
      have i2 : (k : Int) < (l.length : Int) := by omega
      clear hcell hcell'
      generalize l.getD k 0 = x at *
      go_wp2
      go_quiet (fail)
      go_wp2
      go_roundw
      case rel => exact ⟨k + 1, by go_num, by omega, _, rfl⟩
      case measure => simp [intOf]; omega
    · go_wp2
      go_ret
      exact ⟨rfl, below_drewN (Below.refl _ _) _⟩
theorem same5 (vm vh vo vm' vh' vo' : Value) (m : Mach) (out : List Int) (n : Int) (w : World) (wf : m.Wf) (hm : MachAt w vm vh m) (hm' : MachAt w vm' vh' m) (ho : Ints .u32 w vo out) (ho' : Ints .u32 w vo' out) :
    Calls Try.prog 45 #[.agg #[vm, vh, vo, .int .i64 n], .agg #[vm', vh', vo', .int .i64 n]] w fun e w' => e = .returned (.bool true) ∧ Below w.heap.size w w' := by
  obtain ⟨aoh, caph, rfl, hch, hmh, _, hoh⟩ := hm.2.open (fun h hh => hlist_length (wf.harts h hh)) (by omega)
  obtain ⟨aoh', caph', rfl, hch', hmh', _, hoh'⟩ := hm'.2.open (fun h hh => hlist_length (wf.harts h hh)) (by omega)
  unfold maxLen at hmh hmh'
  have HO := Lib.hid hoh
  have HO' := Lib.hid hoh'
  have HM := Lib.hid hm
  have HM' := Lib.hid hm'
  have HU := Lib.hid ho
  have HU' := Lib.hid ho'
  clear hm hm' ho ho' hoh hoh'
  go_enter Try.func45, Try.ntmps45
  go_wp2_with fail
  have hb0 : Below w.heap.size w ((w.alloc (.cells #[vm, .slice aoh m.harts.length caph, vo, .int .i64 n] 94)).alloc (.cells #[vm', .slice aoh' m.harts.length caph', vo', .int .i64 n] 94)) := by go_grown
  refine (bytes4_any _ _ m.mem m.mem _ (HM.out.1.below hb0) (HM'.out.1.below hb0) wf.mem wf.mem).mono ?_
  rintro e w1 ⟨rfl, rfl⟩
  rw [decide_eq_true rfl]
  go_wp2_with fail
  refine (words4_same _ _ out _ (HU.out.below hb0) (HU'.out.below hb0)).mono ?_
  rintro e w2 ⟨rfl, hb2⟩
  have hs0 : ((w.alloc (.cells #[vm, .slice aoh m.harts.length caph, vo, .int .i64 n] 94)).alloc (.cells #[vm', .slice aoh' m.harts.length caph', vo', .int .i64 n] 94)).heap.size = w.heap.size + 2 := by simp
  have c1 := (hb2.cell (p := ⟨w.heap.size, 1, none⟩) (by rw [hs0]; show w.heap.size < _; omega)).trans (show _ = some (.slice aoh m.harts.length caph) by go_cell)
  have c1' := (hb2.cell (p := ⟨w.heap.size + 1, 1, none⟩) (by rw [hs0]; show w.heap.size + 1 < _; omega)).trans (show _ = some (.slice aoh' m.harts.length caph') by go_cell)
  have c3 := (hb2.cell (p := ⟨w.heap.size, 3, none⟩) (by rw [hs0]; show w.heap.size < _; omega)).trans (show _ = some (.int .i64 n) by go_cell)
  have c3' := (hb2.cell (p := ⟨w.heap.size + 1, 3, none⟩) (by rw [hs0]; show w.heap.size + 1 < _; omega)).trans (show _ = some (.int .i64 n) by go_cell)
  have hb3 := hb0.trans (hb2.mono (by rw [hs0]; omega))
  clear hb2 hs0 hb0
  go_wp2_with fail
  go_loopw [5] (fun i wr => ∃ k : Nat, i = .int .i64 k ∧ k ≤ m.harts.length ∧ ∃ nd, wr = w2.drewN nd) (fun i _ => m.harts.length - (intOf i).toNat)
  case atStart => exact ⟨0, rfl, by omega, 0, rfl⟩
  case round =>
    obtain ⟨k, rfl, hk, nd, rfl⟩ := hrel
    by_cases hlt : k < m.harts.length
    · obtain ⟨b, off, rfl, hbl, hel⟩ := HO.out (by intro e; rw [e] at hlt; simp at hlt)
      obtain ⟨b', off', rfl, hbl', hel'⟩ := HO'.out (by intro e; rw [e] at hlt; simp at hlt)
      have hat : At w2 b (off + k * 37) (hlist m.harts[k]) := (hel k hlt).below hb3
      have hat' : At w2 b' (off' + k * 37) (hlist m.harts[k]) := (hel' k hlt).below hb3
      have wfk : m.harts[k].Wf := wf.harts _ (List.getElem_mem hlt)
      generalize m.harts[k] = h at *
      have hsz : (Try.prog.info? 86).map (·.size) = some (hcells h).size := by rw [hcells_size wfk]; kernel_rfl
      have i1 : (0 : Int) ≤ (k : Int) := by omega
      have i2 : (k : Int) < (m.harts.length : Int) := by omega
      clear hel hel' hk
      go_wp2_with fail
      refine wp_region_quiet_lit (by kernel_rfl) (by kernel_rfl) ?_
      repeat (first
        | (refine wpQuiet_load_at rfl 86 _ rfl b (off + k * 37) rfl (hcells h) _ (by rintro _ ⟨_, rfl⟩; exact hat) Try.underlying86 rfl hsz ?_)
        | (refine wpQuiet_load_at rfl 86 _ rfl b' (off' + k * 37) rfl (hcells h) _ (by rintro _ ⟨_, rfl⟩; exact hat') Try.underlying86 rfl hsz ?_)
        | (refine wpQuiet_neq rfl 86 _ _ _ rfl (hcells h) (hcells h) rfl rfl (by kernel_rfl) _ (hart_neq h wfk) ?_)
        | quiet_step (fail))
      refine wpQuiet_nil ?_
      intro _ hw'
      obtain ⟨nq, hw''⟩ := hw'
      subst hw''
      go_wp2
      go_roundw
      case rel => exact ⟨k + 1, by go_num, by omega, _, rfl⟩
      case measure => simp [intOf]; omega
    · go_wp2
      go_ret
      exact ⟨rfl, below_drewN hb3 _⟩
theorem machines12 (vm vh vm' vh' : Value) (m : Mach) (w : World) (wf : m.Wf) (hm : MachAt w vm vh m) (hm' : MachAt w vm' vh' m) :
    Calls Try.prog 17 #[.agg #[vm, vh], .agg #[vm', vh']] w fun e w' => e = .returned (.bool true) ∧ Below w.heap.size w w' := by
  obtain ⟨aom, capm, rfl, _⟩ := hm.1.open
  obtain ⟨aoh, caph, rfl, _⟩ := hm.2.open (fun h hh => hlist_length (wf.harts h hh)) (by omega)
  obtain ⟨aom', capm', rfl, _⟩ := hm'.1.open
  obtain ⟨aoh', caph', rfl, _⟩ := hm'.2.open (fun h hh => hlist_length (wf.harts h hh)) (by omega)
  have HM := Lib.hid hm
  have HM' := Lib.hid hm'
  clear hm hm'
  go_enter Try.func17, Try.ntmps17
  go_wp2_with fail
  refine (same5 _ _ _ _ _ _ m [] 0 _ wf (HM.out.below (by go_grown)) (HM'.out.below (by go_grown)) (Sl.nil _ _) (Sl.nil _ _)).mono ?_
  rintro e w1 ⟨rfl, hb1⟩
  have hb2 : Below w.heap.size w w1 := Below.trans (by go_grown) (hb1.mono (by simp; omega))
  clear hb1
  go_wp2
  go_ret
  exact ⟨rfl, hb2⟩
end Go.Proofs.Ytlfnddmncbkjaaa.W
