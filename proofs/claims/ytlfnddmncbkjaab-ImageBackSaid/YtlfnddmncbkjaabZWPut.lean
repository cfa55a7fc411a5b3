/- image.Put, walked. -/
import Derived.Test.YtlfnddmncbkjaabZMA
import Derived.Test.YtlfnddmncbkjaabZWNum
import Derived.Test.YtlfnddmncbkjaabZWMachMay
namespace Go.Proofs.Ytlfnddmncbkjaab.W
set_option linter.unusedVariables false
set_option linter.unusedSimpArgs false
open Go.RowKit Fb
set_option maxRecDepth 100000 in
set_option maxHeartbeats 3200000 in
theorem put_any (vm vh : Value) (m : Mach) (wf : m.Wf) (w : World) (hm : MachAt w vm vh m) :
    Calls Try.prog 14 #[.agg #[vm, vh]] w fun e w' => (∃ v, e = .returned (.tuple #[v, .int .i64 (wrong m [])]) ∧ Ints .u8 w' v (if wrong m [] = 0 then mbytes m else [])) ∧ Below w.heap.size w w' := by
  have hmay := machmay_any vm vh (.slice none 0 0) m wf [] (w.alloc (.cells #[vm, vh] 25)) (hm.below (Below.alloc (Below.refl _ _) (Nat.le_refl _) _)) (Sl.nil _ _) (by simp)
  have hbox : Below w.heap.size w (w.alloc (.cells #[vm, vh] 25)) := Below.alloc (Below.refl _ _) (Nat.le_refl _) _
  have HM := Lib.hid hm
  obtain ⟨aom, capm, rfl, hcm, hmm, _, _⟩ := hm.1.open
  obtain ⟨aoh, caph, rfl, hch, hmh, _, hoh⟩ := hm.2.open (fun h hh => hlist_length (wf.harts h hh)) (by omega)
  have HO := Lib.hid hoh
  unfold maxLen at hmm hmh
  clear hm hoh
  rcases wrong_nil m with hw | hw
  rotate_left
  · rw [hw] at hmay ⊢
    go_enter Try.func14, Try.ntmps14
    go_wp2_with (go_at_call 49; refine hmay.mono ?_; rintro e w1 ⟨rfl, hb1⟩)
    go_ret2
    exact ⟨⟨_, rfl, by first | exact Sl.nil _ _ | (rw [if_neg (by omega)]; exact Sl.nil _ _)⟩, hbox.trans (hb1.mono (by simp))⟩
  obtain ⟨hq1, hq2, hq3⟩ := wrong_mem hw
  have HK := Lib.hid (wrong_harts hw)
  rw [hw] at hmay ⊢
  clear hw
  go_enter Try.func14, Try.ntmps14
  go_wp2_with (go_at_call 49; refine hmay.mono ?_; rintro e w1 ⟨rfl, hb1⟩; have hz1 : w.heap.size < w1.heap.size := by { have := hb1.size; simp at this; omega }; have c0 : w1.cell? ⟨w.heap.size, 0, none⟩ = some (.slice aom m.mem.length capm) := (hb1.cell (by simp)).trans (by go_cell); have c1 : w1.cell? ⟨w.heap.size, 1, none⟩ = some (.slice aoh m.harts.length caph) := (hb1.cell (by simp)).trans (by go_cell); have hb2 := hbox.trans (hb1.mono (by simp)); clear hmay hb1 hbox)
  have HN1 := num_lit w1.heap.size [] [(m.mem.length : Int)] _ (Wrt.init w1 5 93) (by intro x hx; simp at hx; subst hx; unfold U32; omega) (by simp)
  rw [World.size_alloc] at HN1
  refine HN1.mono ?_
  rintro e w2 ⟨rfl, HW, HG⟩
  clear HN1
  have hz2 := HG.size
  rw [World.size_alloc] at hz2
  have hb3 := hb2.trans (((Grew.alloc w1.heap.size 5 w1 _).trans HG).below (Nat.le_refl _) |>.mono hb2.size)
  have d0 : w2.cell? ⟨w.heap.size, 0, none⟩ = some (.slice aom m.mem.length capm) := ((((Grew.alloc w1.heap.size 5 w1 _).trans HG).below (Nat.le_refl _)).cell hz1).trans c0
  have d1 : w2.cell? ⟨w.heap.size, 1, none⟩ = some (.slice aoh m.harts.length caph) := ((((Grew.alloc w1.heap.size 5 w1 _).trans HG).below (Nat.le_refl _)).cell hz1).trans c1
  clear c0 c1 hb2 HG
  obtain ⟨i0, hi, hi0, hi1, hi2⟩ := info_parts info_u8n
  have HSRC := Lib.hid (HM.out.1.below hb3)
  obtain ⟨v, hv1, hv2, hv3⟩ := HW
  have hpw := lt_of_cell hv1
  have hpw2 : w1.heap.size < w2.heap.size := hpw
  have hfar : Hid (some w1.heap.size ≠ v.ownBlock) := Lib.hid (fun e => by have := (hv3.lt _ e.symm).1; omega)
  have hfar2 : Hid (some w.heap.size ≠ v.ownBlock) := Lib.hid (fun e => by have := (hv3.lt _ e.symm).1; omega)
  have HOWN := Lib.hid hv3
  have HV := Lib.hid (And.intro hv1 (And.intro hv2 (And.intro d0 d1)))
  clear hv3
  go_wp2_with fail
  go_cut [] from 20 to 29 (fun wx => Wrt w1.heap.size 5 wx (quad m.mem.length ++ m.mem) ∧ Grew w1.heap.size 5 w2 wx)
  case first =>
   go_region_law (
     refine step_append_any (by rfl) _ _ _ (by rfl) (w1.heap.size + 1) 5 i0 _ 1 1 Try.underlying22 hi hi0 hi1 hi2 rfl (by omega) v _ _ (by rfl) HOWN.out.drew
         (.slice aom m.mem.length capm) m.mem.length (m.mem.map (Value.int .u8)) (by rfl) HSRC.out (by intro u hu; obtain ⟨y, _, rfl⟩ := List.mem_map.1 hu; rfl) (by simp [quad]; omega) (by simp [quad, maxLen]; omega) (by show _ ≤ w2.heap.size; omega) ?_
     intro v2 w3 hown2 hgrow
     obtain ⟨ao2, cp2, rfl⟩ := owns_slice hown2
     have e0 : w3.cell? ⟨w1.heap.size, 0, none⟩ = some v := (hgrow.cell_far _ hpw2 hfar.out).trans HV.out.1
     have e1 : w3.frozen? ⟨w1.heap.size, 0, none⟩ = false := (hgrow.frozen_far _ hpw2 hfar.out).trans HV.out.2.1)
   all_goals
    go_wp2_with fail
    go_meet
    case rel =>
      refine ⟨?_, (Grew.refl _ _ _).nexts HOWN.out hgrow⟩
      have h := Wrt.nexts (ys := quad m.mem.length) (by simpa using hown2) e0 e1
      simpa using h
  case rest =>
  clear HSRC HV
  obtain ⟨HW3, HG3⟩ := hcut
  have hb4 := hb3.trans ((HG3.below (Nat.le_of_lt hpw2)).mono (Nat.le_of_lt hz1))
  have g1 : wc.cell? ⟨w.heap.size, 1, none⟩ = some (.slice aoh m.harts.length caph) := ((HG3.below (Nat.le_of_lt hpw2)).cell hz1).trans d1
  have hz3 : w1.heap.size < wc.heap.size := Nat.lt_of_lt_of_le hpw2 HG3.size
  clear d0 d1 hv1 hv2 hfar hfar2 HOWN HG3 hb3 hpw hpw2 hz2
  go_wp2_with fail
  have HN1 := num_lit w1.heap.size _ [(m.harts.length : Int)] _ HW3 (by intro x hx; simp at hx; subst hx; unfold U32; omega) (by simp [quad_len]; omega)
  refine HN1.mono ?_
  rintro e w4 ⟨rfl, HW4, HG4⟩
  clear HN1 HW3
  have hb5 := hb4.trans ((HG4.below (Nat.le_of_lt hz3)).mono (Nat.le_of_lt hz1))
  have g2 : w4.cell? ⟨w.heap.size, 1, none⟩ = some (.slice aoh m.harts.length caph) := ((HG4.below (Nat.le_of_lt hz3)).cell hz1).trans g1
  have hz4 : w1.heap.size < w4.heap.size := Nat.lt_of_lt_of_le hz3 HG4.size
  have HW5 : Wrt w1.heap.size 5 w4 (quad m.mem.length ++ m.mem ++ quad m.harts.length) := by simpa using HW4
  clear g1 HG4 hb4 hz3 HW4
  go_wp2_with fail
  go_loopw [40] (fun i wr => ∃ k : Nat, i = .int .i64 k ∧ k ≤ m.harts.length ∧ Hid (Wrt w1.heap.size 5 wr (quad m.mem.length ++ m.mem ++ quad m.harts.length ++ (m.harts.take k).flatMap hbytes) ∧ Grew w1.heap.size 5 w4 wr)) (fun i _ => m.harts.length - (intOf i).toNat)
  case atStart => exact ⟨0, rfl, by omega, Lib.hid ⟨by simpa using HW5, Grew.refl _ _ _⟩⟩
  case round =>
    obtain ⟨k, rfl, hk, HR⟩ := hrel
    have hz5 : w1.heap.size < wr.heap.size := HR.out.1.lt
    have hb6 := hb5.trans ((HR.out.2.below (Nat.le_of_lt hz4)).mono (Nat.le_of_lt hz1))
    by_cases hlt : k < m.harts.length
    · obtain ⟨b, off, rfl, hbl, hel⟩ := HO.out (by intro e; rw [e] at hlt; simp at hlt)
      have hat : At wr b (off + k * 37) (hlist m.harts[k]) := (hel k hlt).below hb6
      clear hel
      have wfk : m.harts[k].Wf := wf.harts _ (List.getElem_mem hlt)
      have okk := HK.out m.harts[k] (List.getElem_mem hlt)
      obtain ⟨s1, s2⟩ := ok_state okk
      obtain ⟨s3, s4⟩ := ok_cause okk
      have HX : Hid (∀ xs : List Int, xs ++ m.harts[k].regs.flatMap quad ++ [m.harts[k].pc, m.harts[k].heldInt, m.harts[k].heldAt, m.harts[k].state, m.harts[k].cause].flatMap quad = xs ++ hbytes m.harts[k]) :=
        Lib.hid (fun xs => by rw [hbytes_parts, List.append_assoc])
      have HT : Hid ((m.harts.take (k + 1)).flatMap hbytes = (m.harts.take k).flatMap hbytes ++ hbytes m.harts[k]) := Lib.hid (flat_take' hlt)
      have HL : Hid (((m.harts.take k).flatMap hbytes).length ≤ 4 * 148) := Lib.hid (by
        rw [flats_len (fun h hh => wf.harts h (List.mem_of_mem_take hh)), List.length_take]; omega)
      generalize m.harts[k] = h at *
      have hsz : (Try.prog.info? 57).map (·.size) = some (hcells h).size := by rw [hcells_size wfk]; kernel_rfl
      have hbox := box_hart h wr 57
      have hnew := heap_alloc_new wr (.cells (hcells h) 57)
      have hne : ∀ cs fr, (wr.alloc (.cells (hcells h) 57)).heap[wr.heap.size]? ≠ some (.cells cs 5 fr) := by
        intro cs fr e
        rw [hnew] at e
        injection e with e
        injection e with _ e2
        exact absurd e2 (by decide)
      have HN2 := num_any w1.heap.size _ wr.heap.size 0 32 h.regs _ (HR.out.1.alloc (.cells (hcells h) 57)) (by have := hbox; rw [hlist] at this; exact this.append_left) ⟨hz5, hne⟩ wfk.regs (by rw [wfk.len]; omega) (by decide) (by
        have := HL.out
        rw [List.length_append, List.length_append, List.length_append, quad_len, quad_len, wfk.len]; omega)
      rw [wfk.len] at HN2
      have c33 : (wr.alloc (.cells (hcells h) 57)).cell? ⟨wr.heap.size, 33, none⟩ = some (.bool h.held) := by simpa using hbox.get (hlist_held wfk)
      have HBX := Lib.hid hbox
      have HNE := Lib.hid hne
      clear hnew hne
      cases hhd : h.held with
      | false =>
        have HH : Hid (h.heldInt = 0) := Lib.hid (by simp [Hart.heldInt, hhd])
        rw [hhd] at c33
        go_wp2_with (first | (refine wpList_load_at rfl 57 _ rfl b (off + k * 37) rfl (hcells h) _ hat Try.underlying57 rfl hsz ?_) | (refine wpList_store_new rfl 57 _ _ rfl wr _ (hcells h) rfl rfl rfl hsz (by rw [hcells_size wfk]; rfl) (hlist_one _) ?_))
        refine HN2.mono ?_
        rintro e w5 ⟨rfl, HW6, HG6⟩
        have hB2 : At w5 wr.heap.size 0 (hlist h) := HG6.at HBX.out (.inr ⟨hz5, HNE.out⟩)
        have p32 : w5.cell? ⟨wr.heap.size, 32, none⟩ = some (.int .u32 h.pc) := by simpa using hB2.get (hlist_pc wfk)
        have p34 : w5.cell? ⟨wr.heap.size, 34, none⟩ = some (.int .u32 h.heldAt) := by simpa using hB2.get (hlist_heldAt wfk)
        have p35 : w5.cell? ⟨wr.heap.size, 35, none⟩ = some (.int .i64 h.state) := by simpa using hB2.get (hlist_state wfk)
        have p36 : w5.cell? ⟨wr.heap.size, 36, none⟩ = some (.int .i64 h.cause) := by simpa using hB2.get (hlist_cause wfk)
        clear hB2 c33 hat hbox HN2
        go_wp2_with fail
        have HN3 := num_lit w1.heap.size _ [h.pc, h.heldInt, h.heldAt, h.state, h.cause] _ HW6 (by
          intro x hx
          simp only [List.mem_cons, List.not_mem_nil, or_false] at hx
          rcases hx with rfl | rfl | rfl | rfl | rfl
          · exact wfk.pc
          · exact heldInt_u h
          · exact wfk.heldAt
          · unfold U32; omega
          · unfold U32; omega) (by
            have := HL.out
            rw [List.length_append, List.length_append, List.length_append, List.length_append, quad_len, quad_len, quads_len, wfk.len]; simp only [List.length_cons, List.length_nil]; omega)
        simp only [HH.out] at HN3
        refine HN3.mono ?_
        rintro e w6 ⟨rfl, HW7, HG7⟩
        have hr : Hid (Wrt w1.heap.size 5 w6 (quad m.mem.length ++ m.mem ++ quad m.harts.length ++ (m.harts.take (k + 1)).flatMap hbytes) ∧ Grew w1.heap.size 5 w4 w6) := Lib.hid ⟨by
          rw [← HH.out] at HW7
          rw [HX.out] at HW7
          rw [HT.out, ← List.append_assoc]
          exact HW7, ((HR.out.2.trans (Grew.alloc _ _ _ _)).trans HG6).trans HG7⟩
        clear HW7 HG7 HW6 HG6 p32 p34 p35 p36 HBX HNE HN3 HR HX HT HL
        go_wp2_with fail
        go_roundw
        case rel => exact ⟨k + 1, by go_num, by omega, hr⟩
        case measure => simp [intOf]; omega
      | true =>
        have HH : Hid (h.heldInt = 1) := Lib.hid (by simp [Hart.heldInt, hhd])
        rw [hhd] at c33
        go_wp2_with (first | (refine wpList_load_at rfl 57 _ rfl b (off + k * 37) rfl (hcells h) _ hat Try.underlying57 rfl hsz ?_) | (refine wpList_store_new rfl 57 _ _ rfl wr _ (hcells h) rfl rfl rfl hsz (by rw [hcells_size wfk]; rfl) (hlist_one _) ?_))
        refine HN2.mono ?_
        rintro e w5 ⟨rfl, HW6, HG6⟩
        have hB2 : At w5 wr.heap.size 0 (hlist h) := HG6.at HBX.out (.inr ⟨hz5, HNE.out⟩)
        have p32 : w5.cell? ⟨wr.heap.size, 32, none⟩ = some (.int .u32 h.pc) := by simpa using hB2.get (hlist_pc wfk)
        have p34 : w5.cell? ⟨wr.heap.size, 34, none⟩ = some (.int .u32 h.heldAt) := by simpa using hB2.get (hlist_heldAt wfk)
        have p35 : w5.cell? ⟨wr.heap.size, 35, none⟩ = some (.int .i64 h.state) := by simpa using hB2.get (hlist_state wfk)
        have p36 : w5.cell? ⟨wr.heap.size, 36, none⟩ = some (.int .i64 h.cause) := by simpa using hB2.get (hlist_cause wfk)
        clear hB2 c33 hat hbox HN2
        go_wp2_with fail
        have HN3 := num_lit w1.heap.size _ [h.pc, h.heldInt, h.heldAt, h.state, h.cause] _ HW6 (by
          intro x hx
          simp only [List.mem_cons, List.not_mem_nil, or_false] at hx
          rcases hx with rfl | rfl | rfl | rfl | rfl
          · exact wfk.pc
          · exact heldInt_u h
          · exact wfk.heldAt
          · unfold U32; omega
          · unfold U32; omega) (by
            have := HL.out
            rw [List.length_append, List.length_append, List.length_append, List.length_append, quad_len, quad_len, quads_len, wfk.len]; simp only [List.length_cons, List.length_nil]; omega)
        simp only [HH.out] at HN3
        refine HN3.mono ?_
        rintro e w6 ⟨rfl, HW7, HG7⟩
        have hr : Hid (Wrt w1.heap.size 5 w6 (quad m.mem.length ++ m.mem ++ quad m.harts.length ++ (m.harts.take (k + 1)).flatMap hbytes) ∧ Grew w1.heap.size 5 w4 w6) := Lib.hid ⟨by
          rw [← HH.out] at HW7
          rw [HX.out] at HW7
          rw [HT.out, ← List.append_assoc]
          exact HW7, ((HR.out.2.trans (Grew.alloc _ _ _ _)).trans HG6).trans HG7⟩
        clear HW7 HG7 HW6 HG6 p32 p34 p35 p36 HBX HNE HN3 HR HX HT HL
        go_wp2_with fail
        go_roundw
        case rel => exact ⟨k + 1, by go_num, by omega, hr⟩
        case measure => simp [intOf]; omega
    · have hkn : k = m.harts.length := by omega
      subst hkn
      obtain ⟨v2, hv1, hv2, hv3⟩ := HR.out.1
      have hsl := Lib.hid (owns_sl hv3)
      clear hv3
      go_wp2
      go_ret2
      rw [List.take_length] at hsl
      exact ⟨⟨_, rfl, by simpa [mbytes, Ints] using hsl.out⟩, hb6⟩
end Go.Proofs.Ytlfnddmncbkjaab.W
