/- hart.Step, walked. -/
import Derived.Test.YtlfnddmncbkjaabZMB
import Derived.Test.YtlfnddmncbkjaabZWGo
import Derived.Test.YtlfnddmncbkjaabZWMay
import Derived.Test.YtlfnddmncbkjaabZWClone
namespace Go.Proofs.Ytlfnddmncbkjaab.W
set_option linter.unusedVariables false
set_option linter.unusedSimpArgs false
open Go.RowKit Fb
set_option maxRecDepth 100000 in
set_option maxHeartbeats 1600000 in
theorem step_any (h : Hart) (wf : h.Wf) (v : Value) (l : List Int) (w : World) (hv : Ints .u8 w v l) (hb : Bytes l) (hl : l.length ≤ 140737488351232) :
    Calls Try.prog 40 #[.agg (hcells h), v] w fun e w' => (∃ vm vo, e = .returned (.tuple #[.agg (hcells (stepD h l).h), vm, vo, .bool (stepOk h l)]) ∧ Ints .u8 w' vm (stepD h l).m ∧ Ints .u32 w' vo (stepD h l).out) ∧ Below w.heap.size w w' := by
  have hbox := box_hart h w 57
  have HM := Lib.hid (fun W => may_any h wf W)
  have HV := Lib.hid hv
  obtain ⟨ao, cap, rfl, hc1, hc2, _⟩ := hv.open
  have hsz : (Try.prog.info? 57).map (·.size) = some (hcells h).size := by rw [hcells_size wf]; kernel_rfl
  obtain ⟨z, hz⟩ : ∃ z, z = hcells hart0 := ⟨_, rfl⟩
  have hzs : z.size = 37 := by rw [hz]; rfl
  have hz0 : z = #[.int .u32 0, .int .u32 0, .int .u32 0, .int .u32 0, .int .u32 0, .int .u32 0, .int .u32 0, .int .u32 0, .int .u32 0, .int .u32 0, .int .u32 0, .int .u32 0, .int .u32 0, .int .u32 0, .int .u32 0, .int .u32 0, .int .u32 0, .int .u32 0, .int .u32 0, .int .u32 0, .int .u32 0, .int .u32 0, .int .u32 0, .int .u32 0, .int .u32 0, .int .u32 0, .int .u32 0, .int .u32 0, .int .u32 0, .int .u32 0, .int .u32 0, .int .u32 0, .int .u32 0, .bool false, .int .u32 0, .int .i64 0, .int .i64 0] := by rw [hz]; rfl
  obtain ⟨w1, hw1⟩ : ∃ w1, w1 = (w.alloc (.cells (hcells h) 57)).alloc (.cells z 57) := ⟨_, rfl⟩
  have hs1 : w1.heap.size = w.heap.size + 2 := by rw [hw1]; simp
  have hb1 : Below w.heap.size w w1 := by rw [hw1]; exact (by repeat (first | with_reducible exact Below.refl _ _ | with_reducible refine below_drewN ?_ _ | ((with_reducible refine Below.setCell ?_ ?hq _); case hq => (first | (simp; done) | (simp; omega))) | ((with_reducible refine Below.alloc ?_ ?hq _); case hq => (first | (simp; done) | (simp; omega)))))
  have hat : At w1 w.heap.size 0 (hlist h) := by rw [hw1]; exact hbox.below (Below.alloc (Below.refl _ _) (Nat.le_refl _) _)
  have hZ : w1.heap[w.heap.size + 1]? = some (.cells z 57 (0, 0)) := by
    rw [hw1]
    have := heap_alloc_new (w.alloc (.cells (hcells h) 57)) (.cells z 57)
    simpa using this
  have hH : w1.heap[w.heap.size]? = some (.cells (hcells h) 57 (0, 0)) := by rw [hw1]; exact (heap_alloc_old _ _ (by simp)).trans (heap_alloc_new _ _)
  have h35 := hat.get (hlist_state wf)
  have HW1 : Hid (w1 = (w.alloc (.cells (hcells h) 57)).alloc (.cells #[.int .u32 0, .int .u32 0, .int .u32 0, .int .u32 0, .int .u32 0, .int .u32 0, .int .u32 0, .int .u32 0, .int .u32 0, .int .u32 0, .int .u32 0, .int .u32 0, .int .u32 0, .int .u32 0, .int .u32 0, .int .u32 0, .int .u32 0, .int .u32 0, .int .u32 0, .int .u32 0, .int .u32 0, .int .u32 0, .int .u32 0, .int .u32 0, .int .u32 0, .int .u32 0, .int .u32 0, .int .u32 0, .int .u32 0, .int .u32 0, .int .u32 0, .int .u32 0, .int .u32 0, .bool false, .int .u32 0, .int .i64 0, .int .i64 0] 57)) := Lib.hid (by rw [hw1, hz0])
  have hz1 : Hid (z.all (·.oneCell') = true) := Lib.hid (Array.all_eq_true_iff_forall_mem.2 (fun v hv => hlist_one hart0 v (by rw [hz] at hv; simpa using hv)))
  have HZ := Lib.hid hZ
  have HH := Lib.hid hH
  have HZ0 := Lib.hid hz0
  have HZD := Lib.hid hz
  have HS : Hid (stepD h l = if stepOk h l = true then goS ⟨h, l, [], 0, 0⟩ else ⟨hart0, [], [], 0, 0⟩) := Lib.hid rfl
  have HO : Hid (stepOk h l = (h.ok && (h.state == 0) && decide (l.length ≤ 4096))) := Lib.hid rfl
  generalize stepD h l = dd at *
  generalize stepOk h l = ok at *
  clear hw1 hbox hZ hH hz0 hz hv
  have hcs : (ok = false ∧ (h.ok = false ∨ (h.ok = true ∧ ¬ h.state = 0) ∨ (h.ok = true ∧ h.state = 0 ∧ (4096 : Int) < l.length))) ∨ (ok = true ∧ h.ok = true ∧ h.state = 0 ∧ l.length ≤ 4096) := by
    rw [HO.out]
    cases h.ok with
    | false => exact .inl ⟨rfl, .inl rfl⟩
    | true =>
      by_cases h0 : h.state = 0
      · by_cases h1 : l.length ≤ 4096
        · exact .inr ⟨by simp [h0, h1], rfl, h0, h1⟩
        · exact .inl ⟨by simp [h1], .inr (.inr ⟨rfl, h0, by omega⟩)⟩
      · exact .inl ⟨by simp [h0], .inr (.inl ⟨rfl, h0⟩)⟩
  have ls1 : w.heap.size < w1.heap.size := by omega
  have ls2 : w.heap.size + 1 < w1.heap.size := by omega
  rcases hcs with ⟨rfl, hc⟩ | ⟨rfl, hok, hst, hle⟩
  · have HD : Hid (dd = ⟨hart0, [], [], 0, 0⟩) := Lib.hid (by rw [HS.out]; rfl)
    rw [HD.out, ← HZD.out]
    dsimp only
    rcases hc with hok | ⟨hok, hst⟩ | ⟨hok, hst, hlen⟩
    all_goals
      rw [hok] at HM
      (try rw [hst] at h35)
      go_enter Try.func40, Try.ntmps40
      go_upto_region 1 with (fail)
      rw [← HW1.out]
      go_wp2_with (first | (refine wpList_load_at rfl 57 _ rfl w.heap.size 0 rfl (hcells h) _ hat Try.underlying57 rfl hsz ?_))
      refine (HM.out _).mono ?_
      rintro e w2 ⟨rfl, hb2⟩
      have g35 := (hb2.cell (p := ⟨w.heap.size, 0 + 35, none⟩) ls1).trans h35
      have hZ2 := (hb2.block (w.heap.size + 1) ls2).trans HZ.out
      have ht : w2.there (w.heap.size + 1) 0 z.size := fun j hj => ⟨by simp [World.cell?, hZ2, hj], by simp [World.frozen?, hZ2]⟩
      have hzi : (Try.prog.info? 57).map (·.size) = some z.size := by rw [hzs]; kernel_rfl
      have hld := load_setCells (P := Try.prog) ht Try.underlying57 rfl hzi
      have hb3 := hb1.trans (hb2.mono (by omega))
      clear h35 hat hb2
      go_wp2_with (first | (refine wpList_store_mid rfl 57 _ _ rfl (w.heap.size + 1) 0 z rfl (by rw [HZ0.out]; rfl) ht hzi hz1.out ?_))
      exact bodyPost_ret (results_c3 (by rfl) _ (by rfl) hld) rfl ⟨⟨_, _, rfl, Sl.nil _ _, Sl.nil _ _⟩, below_setCells (by omega) _ _ _ hb3⟩
  · have HD : Hid (dd = goS ⟨h, l, [], 0, 0⟩) := Lib.hid (by rw [HS.out]; rfl)
    have wf0 : (⟨h, l, [], 0, 0⟩ : CoreD).Wf := ⟨wf, hb, by simp, (⟨by decide, by decide⟩ : U32 0), (⟨by decide, by decide⟩ : U32 0), hl, by simp⟩
    have HWF : Hid dd.Wf := Lib.hid (by rw [HD.out]; exact goS_wf wf0 (by simp))
    have HWF0 := Lib.hid wf0
    clear HS HO wf0
    rw [hok] at HM
    rw [hst] at h35
    go_enter Try.func40, Try.ntmps40
    go_upto_region 1 with (fail)
    rw [← HW1.out]
    go_wp2_with (first | (refine wpList_load_at rfl 57 _ rfl w.heap.size 0 rfl (hcells h) _ hat Try.underlying57 rfl hsz ?_))
    refine (HM.out _).mono ?_
    rintro e w2 ⟨rfl, hb2⟩
    have g35 := (hb2.cell (p := ⟨w.heap.size, 0 + 35, none⟩) ls1).trans h35
    have HZ2 := Lib.hid ((hb2.block (w.heap.size + 1) ls2).trans HZ.out)
    have HH2 := Lib.hid ((hb2.block w.heap.size ls1).trans HH.out)
    have hb3 := hb1.trans (hb2.mono (by omega))
    have hs2 := hb2.size
    clear h35 hat hb2
    go_wp2_with fail
    refine (clone_bytes _ l.length (l.map (Value.int .u8)) w2 (HV.out.below hb3) (by intro u hu; obtain ⟨a, _, rfl⟩ := List.mem_map.1 hu; rfl) (by omega)).mono ?_
    rintro e w3 ⟨⟨vm, rfl, hown, _⟩, hb4⟩
    have HZ3 := Lib.hid ((hb4.block (w.heap.size + 1) (by omega)).trans HZ2.out)
    have HH3 := Lib.hid ((hb4.block w.heap.size (by omega)).trans HH2.out)
    have hs3 := hb4.size
    have hb5 := hb3.trans (hb4.mono (by omega))
    have hmem := owns_mem hown (hb := w.heap.size) (by omega)
    have HC := Lib.hid (CoreAt.init (w := w3) (hb := w.heap.size) (ho := 0) (vm := vm) (ty := 34) (tC := 149) (h := h) (l := l) (fun j hj => by simp [World.cell?, HH3.out, hcells]) (fun o => by simp [World.frozen?, HH3.out]) (by omega) (owns_sl hown) hmem.1 hmem.2)
    have hvl : ∀ k, vm.ownBlock = some k → w1.heap.size ≤ k := fun k e => Nat.le_trans hs2 (hown.lt k e).1
    have HVL := Lib.hid hvl
    obtain ⟨w4, hw4⟩ : ∃ w4, w4 = w3.alloc (.cells #[.pointer (some ⟨w.heap.size, 0, none⟩), vm, .slice none 0 0, .int .u32 0, .int .u32 0] 149) := ⟨_, rfl⟩
    rw [← hw4] at HC
    have HZ4 : Hid (w4.heap[w.heap.size + 1]? = some (.cells z 57 (0, 0))) := Lib.hid (by rw [hw4]; exact (heap_alloc_old _ _ (by omega)).trans HZ3.out)
    have hb6 : Below w.heap.size w w4 := by rw [hw4]; exact hb5.trans (Below.alloc (Below.refl _ _) (by omega) _)
    have hs4 : w4.heap.size = w3.heap.size + 1 := by rw [hw4]; simp
    obtain ⟨ao2, cp2, rfl⟩ := owns_slice hown
    have HW4 := Lib.hid hw4
    clear hw4 hown hmem hvl hb5 hb4 hb3 g35
    go_upto_region 4 with (fail)
    rw [← HW4.out]
    go_wp2_with fail
    refine (go_any HC.out HWF0.out (by simp)).mono ?_
    rintro e w5 ⟨rfl, hc, hg⟩
    rw [← HD.out] at hc
    have hcp := HC.out.lt
    have hZ5 : w5.heap[w.heap.size + 1]? = some (.cells z 57 (0, 0)) := (hg.block (w.heap.size + 1) (by omega) (by omega) (fun e => by have := HVL.out _ e; omega) (.inl (by omega))).trans HZ4.out
    have hb7 : Below w.heap.size w w5 := hb6.trans (hg.below (by omega) (Nat.le_refl _) (fun k e => by have := HVL.out k e; omega) hb6.size)
    have hd5 : At w5.drew w.heap.size 0 (hlist dd.h) := hc.hart
    have wfd := HWF.out.h
    have hsz5 : (Try.prog.info? 57).map (·.size) = some (hcells dd.h).size := by rw [hcells_size wfd]; kernel_rfl
    have hm1 := hc.mem
    obtain ⟨vo, ho1, ho2⟩ := hc.row
    have HC5 := Lib.hid hc
    have HO2 := Lib.hid ho2
    have HB7 := Lib.hid hb7
    have ht : w5.drew.there (w.heap.size + 1) 0 (hcells dd.h).size := fun j hj => ⟨by
      have : w5.drew.heap[w.heap.size + 1]? = some (.cells z 57 (0, 0)) := hZ5
      have hj2 : j < z.size := by rw [hzs]; rw [hcells_size wfd] at hj; exact hj
      simp [World.cell?, this, hj2], by
      have : w5.drew.heap[w.heap.size + 1]? = some (.cells z 57 (0, 0)) := hZ5
      simp [World.frozen?, this]⟩
    have hld := load_setCells (P := Try.prog) ht Try.underlying57 rfl hsz5
    clear hc hg ho2 hb7 hZ5
    go_wp2_with fail
    have hcp5 : w3.heap.size < w5.drew.heap.size := HC5.out.lt
    have H51 : w5.drew.cell? ⟨w3.heap.size, 1, none⟩ = some _ := hm1
    have H52 : w5.drew.cell? ⟨w3.heap.size, 2, none⟩ = some vo := ho1
    have HD5 := Lib.hid hd5
    have HT5 := Lib.hid ht
    have HLD := Lib.hid hld
    have hone : (hcells dd.h).all (·.oneCell') = true := Array.all_eq_true_iff_forall_mem.2 (fun v hv => hlist_one dd.h v (by simpa using hv))
    clear hd5 ht hld
    have hS0 : At w5.drew w.heap.size 0 (hlist dd.h) ∧ w5.drew.cell? ⟨w3.heap.size, 1, none⟩ = some (.slice ao2 l.length cp2) ∧ w5.drew.cell? ⟨w3.heap.size, 2, none⟩ = some vo := ⟨HD5.out, H51, H52⟩
    refine wp_region_held_drew (S := fun w' => At w' w.heap.size 0 (hlist dd.h) ∧ w'.cell? ⟨w3.heap.size, 1, none⟩ = some (.slice ao2 l.length cp2) ∧ w'.cell? ⟨w3.heap.size, 2, none⟩ = some vo) (by kernel_rfl) hS0 (fun hHeld => ?_)
    refine wpAnyH_take (i := 0) (v := .agg (hlist dd.h).toArray) rfl (by kernel_rfl) (by kernel_rfl) (by kernel_rfl) (fun _ _ _ h => h) (yieldsIf_load_mid (by rfl) 57 _ rfl w.heap.size 0 rfl (hlist dd.h) _ (fun w' hw j v hv => by have hj := (List.getElem?_eq_some_iff.1 hv).1; rw [hw.1 j hj, ← hv, List.getElem?_eq_getElem hj]) Try.underlying57 rfl (by rw [hlist_length wfd]; kernel_rfl)) (by assumption) ?_
    try simp only [List.getElem_toArray, List.getElem_cons_zero, List.getElem_cons_succ, Act.put, List.setIfInBounds_toArray, List.set_cons_zero, List.set_cons_succ]
    refine wpAnyH_take (i := 1) (v := .pointer (some ⟨w3.heap.size, 0, none⟩)) rfl (by kernel_rfl) (by kernel_rfl) (by kernel_rfl) (fun _ _ _ h => h) (Or.inl ⟨by rfl, ?_⟩) (by assumption) ?_
    · (try simp only [List.getElem_toArray, List.getElem_cons_zero, List.getElem_cons_succ]); intro w hSw; (try dsimp only at hSw); go_simp
    try simp only [List.getElem_toArray, List.getElem_cons_zero, List.getElem_cons_succ, Act.put, List.setIfInBounds_toArray, List.set_cons_zero, List.set_cons_succ]
    refine wpAnyH_take (i := 2) (v := .pointer (some ⟨w3.heap.size, 0, none⟩)) rfl (by kernel_rfl) (by kernel_rfl) (by kernel_rfl) (fun _ _ _ h => h) (Or.inl ⟨by rfl, ?_⟩) (by assumption) ?_
    · (try simp only [List.getElem_toArray, List.getElem_cons_zero, List.getElem_cons_succ]); intro w hSw; (try dsimp only at hSw); go_simp
    try simp only [List.getElem_toArray, List.getElem_cons_zero, List.getElem_cons_succ, Act.put, List.setIfInBounds_toArray, List.set_cons_zero, List.set_cons_succ]
    refine wpAnyH_take (i := 3) (v := .pointer (some ⟨w3.heap.size, 1, none⟩)) rfl (by kernel_rfl) (by kernel_rfl) (by kernel_rfl) (fun _ _ _ h => h) (Or.inl ⟨by rfl, ?_⟩) (by assumption) ?_
    · (try simp only [List.getElem_toArray, List.getElem_cons_zero, List.getElem_cons_succ]); intro w hSw; (try dsimp only at hSw); go_simp
    try simp only [List.getElem_toArray, List.getElem_cons_zero, List.getElem_cons_succ, Act.put, List.setIfInBounds_toArray, List.set_cons_zero, List.set_cons_succ]
    refine wpAnyH_take (i := 4) (v := .slice ao2 l.length cp2) rfl (by kernel_rfl) (by kernel_rfl) (by kernel_rfl) (fun _ _ _ h => h) (Or.inl ⟨by rfl, ?_⟩) (by assumption) ?_
    · (try simp only [List.getElem_toArray, List.getElem_cons_zero, List.getElem_cons_succ]); intro w hSw; (try dsimp only at hSw); go_simp
    try simp only [List.getElem_toArray, List.getElem_cons_zero, List.getElem_cons_succ, Act.put, List.setIfInBounds_toArray, List.set_cons_zero, List.set_cons_succ]
    refine wpAnyH_take (i := 5) (v := .pointer (some ⟨w3.heap.size, 0, none⟩)) rfl (by kernel_rfl) (by kernel_rfl) (by kernel_rfl) (fun _ _ _ h => h) (Or.inl ⟨by rfl, ?_⟩) (by assumption) ?_
    · (try simp only [List.getElem_toArray, List.getElem_cons_zero, List.getElem_cons_succ]); intro w hSw; (try dsimp only at hSw); go_simp
    try simp only [List.getElem_toArray, List.getElem_cons_zero, List.getElem_cons_succ, Act.put, List.setIfInBounds_toArray, List.set_cons_zero, List.set_cons_succ]
    refine wpAnyH_take (i := 6) (v := .pointer (some ⟨w3.heap.size, 0, none⟩)) rfl (by kernel_rfl) (by kernel_rfl) (by kernel_rfl) (fun _ _ _ h => h) (Or.inl ⟨by rfl, ?_⟩) (by assumption) ?_
    · (try simp only [List.getElem_toArray, List.getElem_cons_zero, List.getElem_cons_succ]); intro w hSw; (try dsimp only at hSw); go_simp
    try simp only [List.getElem_toArray, List.getElem_cons_zero, List.getElem_cons_succ, Act.put, List.setIfInBounds_toArray, List.set_cons_zero, List.set_cons_succ]
    refine wpAnyH_take (i := 7) (v := .pointer (some ⟨w3.heap.size, 2, none⟩)) rfl (by kernel_rfl) (by kernel_rfl) (by kernel_rfl) (fun _ _ _ h => h) (Or.inl ⟨by rfl, ?_⟩) (by assumption) ?_
    · (try simp only [List.getElem_toArray, List.getElem_cons_zero, List.getElem_cons_succ]); intro w hSw; (try dsimp only at hSw); go_simp
    try simp only [List.getElem_toArray, List.getElem_cons_zero, List.getElem_cons_succ, Act.put, List.setIfInBounds_toArray, List.set_cons_zero, List.set_cons_succ]
    refine wpAnyH_take (i := 8) (v := vo) rfl (by kernel_rfl) (by kernel_rfl) (by kernel_rfl) (fun _ _ _ h => h) (Or.inl ⟨by rfl, ?_⟩) (by assumption) ?_
    · (try simp only [List.getElem_toArray, List.getElem_cons_zero, List.getElem_cons_succ]); intro w hSw; (try dsimp only at hSw); go_simp
    try simp only [List.getElem_toArray, List.getElem_cons_zero, List.getElem_cons_succ, Act.put, List.setIfInBounds_toArray, List.set_cons_zero, List.set_cons_succ]
    refine wpAnyH_ready (rs := [9]) (by kernel_rfl) (by simp) ?_
    refine AllReadyH.cons rfl (fun K hK => ?_) AllReadyH.nil
    rw [if_pos (by rfl)]
    refine wp_store_mid 57 _ _ rfl (w.heap.size + 1) 0 (hcells dd.h) rfl rfl HT5.out hsz5 hone ?_
    simp only [Act.put, List.setIfInBounds_toArray, List.set_cons_zero, List.set_cons_succ]
    refine hK.out _ _ ⟨at_setCells (by omega) _ _ _ HD5.out, (World.cell?_setCells_out _ _ _ _ _ (fun hb _ => absurd hb (by simp; omega))).trans H51, (World.cell?_setCells_out _ _ _ _ _ (fun hb _ => absurd hb (by simp; omega))).trans H52⟩ (fun hHeld2 => ?_)
    clear hK K hHeld
    refine wpAnyH_take (i := 10) (v := .slice ao2 l.length cp2) rfl (by kernel_rfl) (by kernel_rfl) (by kernel_rfl) (fun _ _ _ h => h) (Or.inl ⟨by rfl, ?_⟩) (by assumption) ?_
    · (try simp only [List.getElem_toArray, List.getElem_cons_zero, List.getElem_cons_succ]); intro w hSw; (try dsimp only at hSw); go_simp
    try simp only [List.getElem_toArray, List.getElem_cons_zero, List.getElem_cons_succ, Act.put, List.setIfInBounds_toArray, List.set_cons_zero, List.set_cons_succ]
    refine wpAnyH_take (i := 11) (v := vo) rfl (by kernel_rfl) (by kernel_rfl) (by kernel_rfl) (fun _ _ _ h => h) (Or.inl ⟨by rfl, ?_⟩) (by assumption) ?_
    · (try simp only [List.getElem_toArray, List.getElem_cons_zero, List.getElem_cons_succ]); intro w hSw; (try dsimp only at hSw); go_simp
    try simp only [List.getElem_toArray, List.getElem_cons_zero, List.getElem_cons_succ, Act.put, List.setIfInBounds_toArray, List.set_cons_zero, List.set_cons_succ]
    refine wpAnyH_take (i := 12) (v := .bool true) rfl (by kernel_rfl) (by kernel_rfl) (by kernel_rfl) (fun _ _ _ h => h) (Or.inl ⟨by rfl, ?_⟩) (by assumption) ?_
    · (try simp only [List.getElem_toArray, List.getElem_cons_zero, List.getElem_cons_succ]); intro w hSw; (try dsimp only at hSw); go_simp
    try simp only [List.getElem_toArray, List.getElem_cons_zero, List.getElem_cons_succ, Act.put, List.setIfInBounds_toArray, List.set_cons_zero, List.set_cons_succ]
    refine wpAnyH_done (by kernel_rfl) ?_ _
    go_wp2_with fail
    refine bodyPost_ret (results_c3 (by rfl) _ (by rfl) HLD.out) rfl ⟨⟨_, _, rfl, ?_, ?_⟩, below_setCells (by omega) _ _ _ (HB7.out.drew)⟩
    · exact sl_setCells (fun b' off n c e => by have e' : (Value.slice ao2 l.length cp2) = .slice (some ⟨b', off, none⟩) n c := e; have := HVL.out b' (by rw [e']; rfl); omega) _ _ _ (HC5.out.bytes.below (Below.drew (Below.refl _ _)))
    · exact sl_setCells (fun b' off n c e => by have e' : vo = .slice (some ⟨b', off, none⟩) n c := e; have := (HO2.out.lt b' (by rw [e']; rfl)).1; omega) _ _ _ ((owns_sl HO2.out).below (Below.drew (Below.refl _ _)))
end Go.Proofs.Ytlfnddmncbkjaab.W
