import Derived.StillTailTactics
import Derived.Test.YtlfnddmncbkjaaaZMA
import Derived.Test.YtlfnddmncbkjaaaZMB
set_option linter.unusedVariables false
set_option linter.unusedSimpArgs false
set_option maxRecDepth 100000
set_option maxHeartbeats 4000000
namespace Go.Proofs.Ytlfnddmncbkjaaa.W
open Go.RowKit Fb
theorem info_u8z : (Try.prog.info? 5).map (fun i => (i.zero, i.size, i.bytes)) = some (some (.int .u8 0), 1, 1) := by kernel_rfl
theorem info_hartz : (Try.prog.info? 86).map (fun i => (i.zero, i.size, i.bytes)) = some (some (.agg (hcells hart0)), 37, 160) := by kernel_rfl
theorem u8_onez (l : List Int) : ∀ u ∈ l.map (Value.int .u8), u.oneCell' = true := by intro u hu; obtain ⟨a, _, rfl⟩ := List.mem_map.1 hu; rfl
theorem harts_onez (l : List Hart) : ∀ u ∈ l.flatMap hlist, u.oneCell' = true := by
  intro u hu
  obtain ⟨h, _, hu⟩ := List.mem_flatMap.1 hu
  exact hlist_one h u hu
structure Laid0 (B : Nat) (w : World) (vm : Value) (bh hc : Nat) (m : Mach) : Prop where
  own : w.ownsRow B 5 1 vm m.mem.length (m.mem.map (Value.int .u8))
  harts : At w bh 0 (m.harts.flatMap hlist)
  hfz : ∀ o, w.frozen? ⟨bh, o, none⟩ = false
  low : B ≤ bh
  hlt : bh < w.heap.size
  cap : m.harts.length ≤ hc ∧ hc ≤ maxLen
  ne : vm.ownBlock ≠ some bh
theorem play0_any (vm0 vh0 : Value) (m : Mach) (wf : m.Wf) (w : World) (hm : MachAt w vm0 vh0 m) (hq : wrong m [] = 0) :
    Calls Try.prog 61 #[.agg #[vm0, vh0], .slice none 0 0] w fun e w' => (∃ vm bh hc, e = .returned (.agg #[vm, .slice (some ⟨bh, 0, none⟩) m.harts.length hc, .slice none 0 0, .int .i64 0]) ∧ Laid0 w.heap.size w' vm bh hc m) ∧ Below w.heap.size w w' := by
  obtain ⟨aom, capm, rfl, hcm, hmm, _, _⟩ := hm.1.open
  obtain ⟨aoh, caph, rfl, hch, hmh, _, _⟩ := hm.2.open (fun h hh => hlist_length (wf.harts h hh)) (by omega)
  unfold maxLen at hmm hmh
  obtain ⟨w0, hw0⟩ : ∃ w0, w0 = (((w.alloc (.cells #[.slice aom m.mem.length capm, .slice aoh m.harts.length caph] 25)).alloc (.cells #[.slice none 0 0, .slice none 0 0, .slice none 0 0, .int .i64 0] 94)).alloc (.cells #[.slice none 0 0, .slice none 0 0, .slice none 0 0, .int .i64 0] 94)) := ⟨_, rfl⟩
  have hb0 : Below w.heap.size w w0 := by rw [hw0]; exact Fb.blw
  have hs0 : w0.heap.size = w.heap.size + 3 := by rw [hw0]; simp
  have c0 : w0.cell? ⟨w.heap.size, 0, none⟩ = some (.slice aom m.mem.length capm) := by rw [hw0]; go_cell
  have c1 : w0.cell? ⟨w.heap.size, 1, none⟩ = some (.slice aoh m.harts.length caph) := by rw [hw0]; go_cell
  have HZ : Hid (w0.heap[w.heap.size + 1]? = some (.cells #[.slice none 0 0, .slice none 0 0, .slice none 0 0, .int .i64 0] 94 (0, 0))) := Lib.hid (by
    rw [hw0]
    refine (heap_alloc_old _ _ (by simp)).trans ?_
    have := heap_alloc_new (w.alloc (.cells #[.slice aom m.mem.length capm, .slice aoh m.harts.length caph] 25)) (.cells #[.slice none 0 0, .slice none 0 0, .slice none 0 0, .int .i64 0] 94)
    rwa [World.size_alloc] at this)
  have hP : w0.heap[w.heap.size + 1 + 1]? = some (.cells #[.slice none 0 0, .slice none 0 0, .slice none 0 0, .int .i64 0] 94 (0, 0)) := by
    rw [hw0]
    have := heap_alloc_new ((w.alloc (.cells #[.slice aom m.mem.length capm, .slice aoh m.harts.length caph] 25)).alloc (.cells #[.slice none 0 0, .slice none 0 0, .slice none 0 0, .int .i64 0] 94)) (.cells #[.slice none 0 0, .slice none 0 0, .slice none 0 0, .int .i64 0] 94)
    rwa [World.size_alloc, World.size_alloc] at this
  have p0 : (w0).cell? ⟨w.heap.size + 1 + 1, 0, none⟩ = some (.slice none 0 0) := by simp [World.cell?, hP]
  have p1 : (w0).cell? ⟨w.heap.size + 1 + 1, 1, none⟩ = some (.slice none 0 0) := by simp [World.cell?, hP]
  have p2 : (w0).cell? ⟨w.heap.size + 1 + 1, 2, none⟩ = some (.slice none 0 0) := by simp [World.cell?, hP]
  have p3 : (w0).cell? ⟨w.heap.size + 1 + 1, 3, none⟩ = some (.int .i64 0) := by simp [World.cell?, hP]
  have hpf : ∀ o, w0.frozen? ⟨w.heap.size + 1 + 1, o, none⟩ = false := fun o => by simp [World.frozen?, hP]
  have pf0 := hpf 0
  have pf1 := hpf 1
  have HPF := Lib.hid hpf
  have HM := Lib.hid hm
  have hpt := wrong_parts hq
  obtain ⟨p1', p2', p3', p4', p5', p6'⟩ := hpt
  have HW0 := Lib.hid hw0
  have HB0 := Lib.hid hb0
  obtain ⟨iu, hiu, hu0, hu1, hu2⟩ := info_parts info_u8z
  obtain ⟨ih, hih, hh0, hh1, hh2⟩ := info_parts info_hartz
  clear hm hq p4' p5' p6' hw0 hb0 hpf hP
  go_enter Try.func61, Try.ntmps61
  go_upto_region 2 with (fail)
  rw [← HW0.out]
  go_wp2_with (first | (at_builtin; refine append_any rfl _ _ 22 rfl w0.heap.size 5 iu _ 1 1 Try.underlying22 hiu hu0 hu1 hu2 rfl (by decide) _ 0 [] rfl (World.ownsRow_nil _ _ _ _) _ m.mem.length (m.mem.map (Value.int .u8)) rfl (HM.out.1.below HB0.out) (u8_onez _) ?_ ?_ ?_ ?_))
  rotate_right
  · intro v1 w1 hown1 hgrow1
    have hb1 : Below w0.heap.size w0 w1 := (Below.refl _ w0).grown hgrow1 (Nat.le_refl _) (by intro k hk; simp [Value.ownBlock] at hk)
    have hs1 := hb1.size
    obtain ⟨a1, cc1, rfl⟩ := owns_slice hown1
    have l0 : w.heap.size < w0.heap.size := by omega
    have l1 : w.heap.size + 1 + 1 < w0.heap.size := by omega
    have d0 := (hb1.cell (p := ⟨w.heap.size, 0, none⟩) l0).trans c0
    have d1 := (hb1.cell (p := ⟨w.heap.size, 1, none⟩) l0).trans c1
    have q0 : (w1).cell? ⟨w.heap.size + 1 + 1, 0, none⟩ = some (.slice none 0 0) := (hb1.cell (p := ⟨w.heap.size + 1 + 1, 0, none⟩) (l1)).trans p0
    have q1 : (w1).cell? ⟨w.heap.size + 1 + 1, 1, none⟩ = some (.slice none 0 0) := (hb1.cell (p := ⟨w.heap.size + 1 + 1, 1, none⟩) (l1)).trans p1
    have q2 : (w1).cell? ⟨w.heap.size + 1 + 1, 2, none⟩ = some (.slice none 0 0) := (hb1.cell (p := ⟨w.heap.size + 1 + 1, 2, none⟩) (l1)).trans p2
    have q3 : (w1).cell? ⟨w.heap.size + 1 + 1, 3, none⟩ = some (.int .i64 0) := (hb1.cell (p := ⟨w.heap.size + 1 + 1, 3, none⟩) (l1)).trans p3
    have qf0 := (hb1.frozen (p := ⟨w.heap.size + 1 + 1, 0, none⟩) l1).trans pf0
    have qf1 := (hb1.frozen (p := ⟨w.heap.size + 1 + 1, 1, none⟩) l1).trans pf1
    have HO1 := Lib.hid hown1
    have HB1 := Lib.hid hb1
    have hB1 := Lib.hid (HB0.out.trans (hb1.mono (by omega)))
    clear c0 c1 p0 p1 p2 p3 pf0 pf1 hown1 hgrow1 hb1
    obtain ⟨w2, hw2⟩ : ∃ w2, w2 = w1.setCell ⟨w.heap.size + 1 + 1, 0, none⟩ (.slice a1 m.mem.length cc1) := ⟨_, rfl⟩
    have hs2 : w2.heap.size = w1.heap.size := by rw [hw2]; simp
    have HW2 := Lib.hid hw2
    clear hw2
    go_upto_region 3 with (fail)
    rw [← HW2.out]
    have hn : ∀ j, j ≠ 0 → w2.cell? ⟨w.heap.size + 1 + 1, j, none⟩ = w1.cell? ⟨w.heap.size + 1 + 1, j, none⟩ := fun j hj => by rw [HW2.out]; exact World.cell?_setCell_other _ _ _ _ (by intro e; injection e with _ e2; omega)
    have hbk : ∀ j, j ≠ w.heap.size + 1 + 1 → w2.heap[j]? = w1.heap[j]? := fun j hj => by rw [HW2.out]; exact Below.heap_setCell _ _ _ _ (by show j ≠ _; exact hj)
    have e0 := (cell_block (hbk w.heap.size (by omega)) 0).trans d0
    have e1 := (cell_block (hbk w.heap.size (by omega)) 1).trans d1
    have r0 : w2.cell? ⟨w.heap.size + 1 + 1, 0, none⟩ = some (.slice a1 m.mem.length cc1) := by rw [HW2.out]; exact World.cell?_setCell_same _ _ _ q0
    have r1 := (hn 1 (by omega)).trans q1
    have r2 := (hn 2 (by omega)).trans q2
    have r3 := (hn 3 (by omega)).trans q3
    have hfz : ∀ o, w2.frozen? ⟨w.heap.size + 1 + 1, o, none⟩ = false := fun o => by rw [HW2.out]; exact (World.frozen?_setCell _ _ _ _).trans ((HB1.out.frozen (p := ⟨w.heap.size + 1 + 1, o, none⟩) l1).trans (HPF.out o))
    have rf1 := hfz 1
    have HO2 : Hid (w2.ownsRow (w.heap.size + 3) 5 1 (.slice a1 m.mem.length cc1) m.mem.length (m.mem.map (Value.int .u8))) := Lib.hid (owns_block HO1.out (fun g hg => hbk g (by have := HO1.out.lt g hg; omega)))
    have HZ2 := Lib.hid ((hbk (w.heap.size + 1) (by omega)).trans ((HB1.out.block (w.heap.size + 1) (by omega)).trans HZ.out))
    have HB2 : Hid (Below w.heap.size w w2) := Lib.hid (by rw [HW2.out]; exact hB1.out.setCell (p := ⟨w.heap.size + 1 + 1, 0, none⟩) (by show w.heap.size ≤ w.heap.size + 1 + 1; omega) _)
    have HFZ := Lib.hid hfz
    clear d0 d1 q0 q1 q2 q3 qf0 qf1 hn hbk HO1 HB1 hB1 HW2 HZ HPF hfz
    go_wp2_with (first | (at_builtin; refine append_any rfl _ _ 23 rfl w2.heap.size 86 ih _ 37 160 Try.underlying23 hih hh0 hh1 hh2 (by kernel_rfl) (by decide) _ 0 [] rfl (World.ownsRow_nil _ _ _ _) _ m.harts.length (m.harts.flatMap hlist) rfl (HM.out.2.below HB2.out) (harts_onez _) ?_ ?_ ?_ ?_))
    rotate_right
    · intro v3 w3 hown3 hgrow3
      have hb3 : Below w2.heap.size w2 w3 := (Below.refl _ w2).grown hgrow3 (Nat.le_refl _) (by intro k hk; simp [Value.ownBlock] at hk)
      have hs3 := hb3.size
      rcases owns_open hown3 with ⟨_, e, _⟩ | ⟨bh, hc, rfl, hB, hg, hn, hm, hat, hf⟩
      · omega
      have l0 : w.heap.size < w2.heap.size := by omega
      have l1 : w.heap.size + 1 + 1 < w2.heap.size := by omega
      have q0 : (w3).cell? ⟨w.heap.size + 1 + 1, 0, none⟩ = some (.slice a1 m.mem.length cc1) := (hb3.cell (p := ⟨w.heap.size + 1 + 1, 0, none⟩) (l1)).trans r0
      have q1 : (w3).cell? ⟨w.heap.size + 1 + 1, 1, none⟩ = some (.slice none 0 0) := (hb3.cell (p := ⟨w.heap.size + 1 + 1, 1, none⟩) (l1)).trans r1
      have q2 : (w3).cell? ⟨w.heap.size + 1 + 1, 2, none⟩ = some (.slice none 0 0) := (hb3.cell (p := ⟨w.heap.size + 1 + 1, 2, none⟩) (l1)).trans r2
      have q3 : (w3).cell? ⟨w.heap.size + 1 + 1, 3, none⟩ = some (.int .i64 0) := (hb3.cell (p := ⟨w.heap.size + 1 + 1, 3, none⟩) (l1)).trans r3
      have hfz : ∀ o, w3.frozen? ⟨w.heap.size + 1 + 1, o, none⟩ = false := fun o => (hb3.frozen (p := ⟨w.heap.size + 1 + 1, o, none⟩) l1).trans (HFZ.out o)
      have hpb := PB.begin (bp := w.heap.size + 1 + 1) (B := w.heap.size + 3) (ty := 33) (m := m) (by omega) (by omega) q0 q1 q2 q3 hfz (owns_below HO2.out hb3) (fun k e => by have := HO2.out.lt k e; omega) hat hg hf ⟨hn, hm⟩
      have qf1 := hfz 1
      have HZ3 := Lib.hid ((hb3.block (w.heap.size + 1) (by omega)).trans HZ2.out)
      have HB3 := Lib.hid (HB2.out.trans (hb3.mono (by omega)))
      obtain ⟨w4, hw4⟩ : ∃ w4, w4 = w3.setCell ⟨w.heap.size + 1 + 1, 1, none⟩ (.slice (some ⟨bh, 0, none⟩) m.harts.length hc) := ⟨_, rfl⟩
      rw [← hw4] at hpb
      have HPB := Lib.hid hpb
      have HZ4 : Hid (w4.heap[w.heap.size + 1]? = some (.cells #[.slice none 0 0, .slice none 0 0, .slice none 0 0, .int .i64 0] 94 (0, 0))) := Lib.hid (by rw [hw4]; exact (Below.heap_setCell _ _ _ _ (by show w.heap.size + 1 ≠ w.heap.size + 1 + 1; omega)).trans HZ3.out)
      have HB4 : Hid (Below w.heap.size w w4) := Lib.hid (by rw [hw4]; exact HB3.out.setCell (p := ⟨w.heap.size + 1 + 1, 1, none⟩) (by show w.heap.size ≤ w.heap.size + 1 + 1; omega) _)
      have hs4 : w4.heap.size = w3.heap.size := by rw [hw4]; simp
      have k1 : w4.cell? ⟨w.heap.size + 1 + 1, 1, none⟩ = some (.slice (some ⟨bh, 0, none⟩) m.harts.length hc) := hpb.c1
      have HO4 : Hid (w4.ownsRow (w.heap.size + 3) 5 1 (.slice a1 m.mem.length cc1) m.mem.length (m.mem.map (Value.int .u8))) := Lib.hid (by rw [hw4]; exact owns_block (owns_below HO2.out hb3) (fun g hg => Below.heap_setCell _ _ _ _ (by have := (HO2.out.lt g hg).1; show g ≠ w.heap.size + 1 + 1; omega)))
      have HBH : Hid (w2.heap.size ≤ bh ∧ ∀ g, (Value.slice a1 m.mem.length cc1).ownBlock = some g → g < w2.heap.size) := Lib.hid ⟨by omega, fun g hg => (HO2.out.lt g hg).2⟩
      have HW4 := Lib.hid hw4
      clear e0 e1 r0 r1 r2 r3 rf1 q0 q2 q3 hfz hpb hw4 hown3 hgrow3 hb3 hat hf HO2 HZ2 HB2 HFZ HZ3 HB3
      go_upto_region 4 with (fail)
      rw [← HW4.out]
      go_wp2_with fail
      go_loopw [7] (fun i wr => i = .int .i64 0 ∧ wr = w4) (fun _ _ => 0)
      case atStart => exact ⟨rfl, rfl⟩
      case round =>
        obtain ⟨rfl, rfl⟩ := hrel
        have z0 := HPB.out.c0
        have z1 := HPB.out.c1
        have z2 := HPB.out.c2
        have z3 := HPB.out.c3
        have hsz5 : (Try.prog.info? 94).map (·.size) = some (#[.slice a1 m.mem.length cc1, .slice (some ⟨bh, 0, none⟩) m.harts.length hc, .slice none 0 0, .int .i64 0] : Array Value).size := by show _ = some 4; kernel_rfl
        have hall : (#[.slice a1 m.mem.length cc1, .slice (some ⟨bh, 0, none⟩) m.harts.length hc, .slice none 0 0, .int .i64 0] : Array Value).all (·.oneCell') = true := by simp [Value.oneCell']
        have hbp : w.heap.size + 1 < bh := by have := HPB.out.b1; omega
        have HEND : Hid (wr.there (w.heap.size + 1) 0 4 ∧ (loadVar 94 ⟨w.heap.size + 1, 0, none⟩).run Try.prog (wr.setCells (w.heap.size + 1) 0 [.slice a1 m.mem.length cc1, .slice (some ⟨bh, 0, none⟩) m.harts.length hc, .slice none 0 0, .int .i64 0]) = .ok (.agg #[.slice a1 m.mem.length cc1, .slice (some ⟨bh, 0, none⟩) m.harts.length hc, .slice none 0 0, .int .i64 0]) (wr.setCells (w.heap.size + 1) 0 [.slice a1 m.mem.length cc1, .slice (some ⟨bh, 0, none⟩) m.harts.length hc, .slice none 0 0, .int .i64 0])) := Lib.hid (by
          have ht : wr.there (w.heap.size + 1) 0 4 := there_blk HZ4.out rfl
          exact ⟨ht, load_setCells (P := Try.prog) (cs := #[.slice a1 m.mem.length cc1, .slice (some ⟨bh, 0, none⟩) m.harts.length hc, .slice none 0 0, .int .i64 0]) ht Try.underlying94 rfl hsz5⟩)
        have ht5 : wr.there (w.heap.size + 1) 0 (#[.slice a1 m.mem.length cc1, .slice (some ⟨bh, 0, none⟩) m.harts.length hc, .slice none 0 0, .int .i64 0] : Array Value).size := HEND.out.1
        have HTH := Lib.hid ht5
        go_wp2_with (first | (refine wpList_store_mid rfl 94 _ _ rfl (w.heap.size + 1) 0 #[.slice a1 m.mem.length cc1, .slice (some ⟨bh, 0, none⟩) m.harts.length hc, .slice none 0 0, .int .i64 0] rfl rfl HTH.out hsz5 hall ?_))
        refine bodyPost_ret (results_c1 (by rfl) _ (by rfl) HEND.out.2) rfl ⟨⟨_, bh, hc, rfl, ?_⟩, below_setCells (by omega) _ _ _ HB4.out⟩
        have hk : ∀ q, q ≠ w.heap.size + 1 → (wr.setCells (w.heap.size + 1) 0 [.slice a1 m.mem.length cc1, .slice (some ⟨bh, 0, none⟩) m.harts.length hc, .slice none 0 0, .int .i64 0]).heap[q]? = wr.heap[q]? := fun q hq => heap_setCells hq _ _ _
        refine ⟨owns_block (owns_mono HO4.out (by omega)) (fun g hg => hk g (by have := (HO4.out.lt g hg).1; omega)), fun j hj => (cell_block (hk bh (by omega)) _).trans (HPB.out.harts j hj), fun o => (frozen_block (hk bh (by omega)) o).trans (HPB.out.hfz o), by omega, by rw [size_setCells]; exact HPB.out.hlt, HPB.out.hcap, fun e => ?_⟩
        have h1 := HBH.out.2 bh e
        have h2 := HBH.out.1
        omega
    all_goals first
      | (unfold maxLen; omega)
      | omega
  all_goals first
    | (unfold maxLen; omega)
    | omega
end Go.Proofs.Ytlfnddmncbkjaaa.W
