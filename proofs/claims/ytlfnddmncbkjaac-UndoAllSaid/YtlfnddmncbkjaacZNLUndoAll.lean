import Derived.Test.YtlfnddmncbkjaacZWUndo2
import Derived.Test.YtlfnddmncbkjaacZNFbEng2
import Derived.Test.YtlfnddmncbkjaacZNFbSteps8b
import Derived.Test.YtlfnddmncbkjaacZNWRun
import Derived.Test.YtlfnddmncbkjaacZGL
import Derived.Test.YtlfnddmncbkjaacZNWBack4
import Derived.Test.YtlfnddmncbkjaacZNFbBackD
import Derived.Test.YtlfnddmncbkjaacZNFbIn
import Derived.Test.YtlfnddmncbkjaacZNWBack1
import Derived.Test.YtlfnddmncbkjaacZNWBack2
import Derived.Test.YtlfnddmncbkjaacZNWBack3
import Derived.Test.YtlfnddmncbkjaacZNFbBackU
import Derived.Test.YtlfnddmncbkjaacZNFbBack
import Derived.Test.YtlfnddmncbkjaacZHB
import Derived.Test.YtlfnddmncbkjaacZNWSame
import Derived.Test.YtlfnddmncbkjaacZMA
set_option linter.unusedVariables false
set_option linter.unusedSimpArgs false
set_option maxRecDepth 100000
set_option maxHeartbeats 4000000
namespace Go.Proofs.Ytlfnddmncbkjaac.UndoAllLaw
open Go.RowKit Fb W
theorem runM_good {m : Mach} {l : List (Int × Int)} (wf : m.Wf) : (runM m l).Good := by
  unfold runM
  split
  · rename_i h; exact playM_good l (startM_good wf h)
  · have h : ∀ {α : Type} {P : α → Prop}, ∀ x ∈ ([] : List α), P x := fun x hx => by cases hx
    exact ⟨⟨h, h, Nat.zero_le _, h⟩, h, Nat.le_refl _⟩
theorem us_back {m : Mach} {l : List (Int × Int)} (wf : m.Wf) (hq : wrong m l = 0) {us : List UndD} (h : us.map (·.d) = undoM m l) : (∀ d ∈ us.map (·.d), URng d) ∧ us.length ≤ 200000 ∧ us.length = (runM m l).steps ∧ backS (runM m l).mach (us.map (·.d)) us.length = (m, 0) ∧ 0 < m.harts.length := by
  obtain ⟨p1, p2, p3, p4, p5, p6⟩ := wrong_parts hq
  have hl := undoPlay_len l (startM m) (fun p hp => (p6 p hp).2.2.2)
  have e1 : undoM m l = undoPlay l (startM m) := if_pos hq
  have e2 : runM m l = playM l (startM m) := if_pos hq
  rw [e1] at h
  have hn : us.length = (undoPlay l (startM m)).length := by rw [← h, List.length_map]
  rw [h, e2]
  exact ⟨undoPlay_rng l (startM_good wf hq) (fun p hp => ⟨(p6 p hp).1, (p6 p hp).2.1⟩) p3, by omega, by rw [play_steps, hn], backS_all wf hq hn.symm, by omega⟩
theorem walk (vm vh vs : Value) (m : Mach) (l : List (Int × Int)) (w : World) (hm : MachAt w vm vh m) (wf : m.Wf) (hs : Picks w vs l) (hp : ∀ p ∈ l, i64ok p.1 ∧ i64ok p.2) :
    Calls Try.prog 7 #[.agg #[vm, vh], vs] w fun e w' => e = .returned (.bool true) ∧ Below w.heap.size w w' := by
  obtain ⟨aom, capm, rfl, hcm, hmm, -, -⟩ := hm.1.open
  obtain ⟨aoh, caph, rfl, hch, hmh, -, -⟩ := hm.2.open (fun h hh => hlist_length (wf.harts h hh)) (by omega)
  clear hcm hmm hch hmh
  obtain ⟨w1, hw1⟩ : ∃ w1, w1 = w.alloc (.cells #[.slice aom m.mem.length capm, .slice aoh m.harts.length caph] 25) := ⟨_, rfl⟩
  have hb1 : Below w.heap.size w w1 := by rw [hw1]; exact Fb.blw
  have hs1 : w.heap.size + 1 ≤ w1.heap.size := by rw [hw1]; simp
  have c0 : w1.cell? ⟨w.heap.size, 0, none⟩ = some (.slice aom m.mem.length capm) := by rw [hw1]; go_cell
  have c1 : w1.cell? ⟨w.heap.size, 1, none⟩ = some (.slice aoh m.harts.length caph) := by rw [hw1]; go_cell
  obtain ⟨aos, caps, rfl, hcs, hms, -, hos⟩ := (hs.below hb1).open (fun _ _ => rfl) (by omega)
  unfold maxLen at hms
  have HOS := Lib.hid hos
  have HUR := Lib.hid (fun W hW => urun_any _ _ _ m wf l W (hm.below hW) (hs.below hW) hp)
  have HRN := Lib.hid (fun W hW => run_any _ _ _ m wf l W (hm.below hW) (hs.below hW) hp)
  have HUB : Hid (wrong m l = 0 → ∀ (us : List UndD), us.map (·.d) = undoM m l → (∀ d ∈ us.map (·.d), URng d) ∧ us.length ≤ 200000 ∧ us.length = (runM m l).steps ∧ backS (runM m l).mach (us.map (·.d)) us.length = (m, 0) ∧ 0 < m.harts.length) := Lib.hid (fun hq us h => us_back wf hq h)
  have HG : Hid ((runM m l).Good) := Lib.hid (runM_good wf)
  have HW1 := Lib.hid hw1
  have HWF := Lib.hid wf
  have HUM : Hid (wrong m l ≠ 0 → undoM m l = []) := Lib.hid (fun h => if_neg h)
  have HM := Lib.hid hm
  obtain ⟨sF, hsF⟩ : ∃ s, s = runM m l := ⟨_, rfl⟩
  obtain ⟨uF, huF⟩ : ∃ s, s = undoM m l := ⟨_, rfl⟩
  obtain ⟨q, hq⟩ : ∃ q, q = wrong m l := ⟨_, rfl⟩
  simp only [← hq, ← hsF, ← huF] at HUR HRN HUB HG HUM
  have HB1 := Lib.hid hb1
  clear hw1 hm hs hp hq hsF huF hb1 hos wf
  go_enter Try.func7, Try.ntmps7
  go_upto_region 1 with (fail)
  rw [← HW1.out]
  go_wp2_with fail
  go_loopw [5, 6] (fun x i wr => ∃ n k : Nat, x = .int .i64 n ∧ i = .int .i64 k ∧ n ≤ 6001 ∧ k ≤ l.length ∧ wr = w1) (fun _ i _ => l.length - (intOf i).toNat)
  case atStart => exact ⟨0, 0, rfl, rfl, by omega, by omega, rfl⟩
  case round =>
    obtain ⟨n, k, rfl, rfl, hn, hk, rfl⟩ := hrel
    by_cases hlt : k < l.length
    · obtain ⟨b, off, rfl, hbl, hel⟩ := HOS.out (by intro e; rw [e] at hlt; simp at hlt)
      have d1 := (hel k hlt).get (j := 1) (v := .int .i64 l[k].2) rfl
      clear hel
      generalize l[k].2 = y at *
      by_cases h3 : n ≤ 3000
      · by_cases hy : 0 < y
        · by_cases hy2 : y ≤ 3001
          · obtain ⟨t, rfl⟩ := Int.eq_ofNat_of_zero_le (Int.le_of_lt hy)
            have h4 : t ≤ 3001 := by omega
            have h5 : 0 < t := by omega
            have hmin : min (t : Int) 3001 = (t : Int) := by omega
            have hmax : max (t : Int) 0 = (t : Int) := by omega
            go_wp2_with fail
            exact ⟨⟨n + t, k + 1, by simp, by simp, by omega, by omega, trivial⟩, by simp [intOf]; omega⟩
          · have hmin : min y 3001 = 3001 := by omega
            have hmax : max (3001 : Int) 0 = 3001 := rfl
            go_wp2_with fail
            exact ⟨⟨n + 3001, k + 1, by simp, by simp, by omega, by omega, trivial⟩, by simp [intOf]; omega⟩
        · have hmax : max (min y 3001) 0 = 0 := by omega
          go_wp2_with fail
          exact ⟨⟨n, k + 1, by simp, by simp, by omega, by omega, trivial⟩, by simp [intOf]; omega⟩
      · go_wp2_with fail
        go_ret
        exact ⟨rfl, HB1.out⟩
    · obtain rfl : k = l.length := by omega
      clear hk hlt hms hcs
      by_cases h3 : n ≤ 3000
      · have h3' : ¬ (3000 : Int) < (n : Int) := by omega
        have HS1 := Lib.hid hs1
        clear h3 hn hs1
        go_upto_region 8 with (fail)
        go_wp2_with fail
        refine (HUR.out _ HB1.out).mono ?_
        rintro e w3 ⟨⟨vm3, vh3, vo3, vu, us, rfl, hsh, hup, heq⟩, hb3⟩
        obtain ⟨am2, cm2, rfl, -⟩ := hsh.mach.1.open
        obtain ⟨ah2, ch2, rfl, -⟩ := hsh.mach.2.open (fun h hh => hlist_length (HG.out.wf.harts h hh)) (by omega)
        obtain ⟨ao2, co2, rfl, -⟩ := hsh.out.open
        obtain ⟨au, cu, rfl⟩ := owns_slice hup.own
        have l1 : w.heap.size < wr.heap.size := by have := HS1.out; omega
        have e0 := (hb3.cell (p := ⟨w.heap.size, 0, none⟩) l1).trans c0
        have e1 := (hb3.cell (p := ⟨w.heap.size, 1, none⟩) l1).trans c1
        have hs3 := hb3.size
        have HB3 := Lib.hid (HB1.out.trans (hb3.mono (by omega)))
        obtain ⟨w4, hw4⟩ : ∃ w4, w4 = w3.alloc (.cells #[.slice am2 sF.mach.mem.length cm2, .slice ah2 sF.mach.harts.length ch2, .slice ao2 sF.out.length co2, .int .i64 sF.steps] 29) := ⟨_, rfl⟩
        have hb4 : Below w3.heap.size w3 w4 := by rw [hw4]; exact Fb.blw
        have hs4 : w3.heap.size + 1 ≤ w4.heap.size := by rw [hw4]; simp
        have l3 : w.heap.size < w3.heap.size := by omega
        have f0 := (hb4.cell (p := ⟨w.heap.size, 0, none⟩) l3).trans e0
        have f1 := (hb4.cell (p := ⟨w.heap.size, 1, none⟩) l3).trans e1
        have g0 : (w4).cell? ⟨w3.heap.size, 0, none⟩ = some (.slice am2 sF.mach.mem.length cm2) := by rw [hw4]; go_cell
        have g1 : (w4).cell? ⟨w3.heap.size, 1, none⟩ = some (.slice ah2 sF.mach.harts.length ch2) := by rw [hw4]; go_cell
        have g2 : (w4).cell? ⟨w3.heap.size, 2, none⟩ = some (.slice ao2 sF.out.length co2) := by rw [hw4]; go_cell
        have g3 : (w4).cell? ⟨w3.heap.size, 3, none⟩ = some (.int .i64 sF.steps) := by rw [hw4]; go_cell
        have HS4 : Hid (ShownAt w4 (.slice am2 sF.mach.mem.length cm2) (.slice ah2 sF.mach.harts.length ch2) (.slice ao2 sF.out.length co2) sF) := Lib.hid ⟨hsh.mach.below hb4, hsh.out.below hb4⟩
        have HUP4 := Lib.hid (hup.below hb4)
        have HEQ := Lib.hid heq
        have HB4 := Lib.hid (HB3.out.trans (hb4.mono (by omega)))
        have HW4 := Lib.hid hw4
        clear c0 c1 e0 e1 hsh hb3 hb4 hw4 HB3 hup heq
        go_upto_region 9 with (fail)
        rw [← HW4.out]
        go_wp2_with fail
        refine (HRN.out _ HB4.out).mono ?_
        rintro e w5 ⟨⟨vm5, vh5, vo5, rfl, hsh5⟩, hb5⟩
        obtain ⟨am5, cm5, rfl, -⟩ := hsh5.mach.1.open
        obtain ⟨ah5, ch5, rfl, -⟩ := hsh5.mach.2.open (fun h hh => hlist_length (HG.out.wf.harts h hh)) (by omega)
        obtain ⟨ao5, co5, rfl, -⟩ := hsh5.out.open
        have l4 : w3.heap.size < w4.heap.size := by omega
        have k0 : (w5).cell? ⟨w3.heap.size, 0, none⟩ = some (.slice am2 sF.mach.mem.length cm2) := (hb5.cell (p := ⟨w3.heap.size, 0, none⟩) (l4)).trans g0
        have k1 : (w5).cell? ⟨w3.heap.size, 1, none⟩ = some (.slice ah2 sF.mach.harts.length ch2) := (hb5.cell (p := ⟨w3.heap.size, 1, none⟩) (l4)).trans g1
        have k2 : (w5).cell? ⟨w3.heap.size, 2, none⟩ = some (.slice ao2 sF.out.length co2) := (hb5.cell (p := ⟨w3.heap.size, 2, none⟩) (l4)).trans g2
        have k3 : (w5).cell? ⟨w3.heap.size, 3, none⟩ = some (.int .i64 sF.steps) := (hb5.cell (p := ⟨w3.heap.size, 3, none⟩) (l4)).trans g3
        have hs5 := hb5.size
        obtain ⟨w6, hw6⟩ : ∃ w6, w6 = w5.alloc (.cells #[.slice am5 sF.mach.mem.length cm5, .slice ah5 sF.mach.harts.length ch5, .slice ao5 sF.out.length co5, .int .i64 sF.steps] 29) := ⟨_, rfl⟩
        have hb6 : Below w5.heap.size w5 w6 := by rw [hw6]; exact Fb.blw
        have hs6 : w5.heap.size + 1 ≤ w6.heap.size := by rw [hw6]; simp
        have l5 : w3.heap.size < w5.heap.size := by omega
        have hb46 : Below w4.heap.size w4 w6 := hb5.trans (hb6.mono (by omega))
        have x0 : (w6).cell? ⟨w3.heap.size, 0, none⟩ = some (.slice am2 sF.mach.mem.length cm2) := (hb6.cell (p := ⟨w3.heap.size, 0, none⟩) (l5)).trans k0
        have x1 : (w6).cell? ⟨w3.heap.size, 1, none⟩ = some (.slice ah2 sF.mach.harts.length ch2) := (hb6.cell (p := ⟨w3.heap.size, 1, none⟩) (l5)).trans k1
        have x2 : (w6).cell? ⟨w3.heap.size, 2, none⟩ = some (.slice ao2 sF.out.length co2) := (hb6.cell (p := ⟨w3.heap.size, 2, none⟩) (l5)).trans k2
        have x3 : (w6).cell? ⟨w3.heap.size, 3, none⟩ = some (.int .i64 sF.steps) := (hb6.cell (p := ⟨w3.heap.size, 3, none⟩) (l5)).trans k3
        have z0 : (w6).cell? ⟨w5.heap.size, 0, none⟩ = some (.slice am5 sF.mach.mem.length cm5) := by rw [hw6]; go_cell
        have z1 : (w6).cell? ⟨w5.heap.size, 1, none⟩ = some (.slice ah5 sF.mach.harts.length ch5) := by rw [hw6]; go_cell
        have z2 : (w6).cell? ⟨w5.heap.size, 2, none⟩ = some (.slice ao5 sF.out.length co5) := by rw [hw6]; go_cell
        have z3 : (w6).cell? ⟨w5.heap.size, 3, none⟩ = some (.int .i64 sF.steps) := by rw [hw6]; go_cell
        have HUP6 := Lib.hid (HUP4.out.below hb46)
        have HS6 := Lib.hid (HS4.out.mach.below hb46)
        have HT6 := Lib.hid (hsh5.mach.below hb6)
        have HB6 := Lib.hid ((HB4.out.trans (hb5.mono (by have := HB4.out.size; omega))).trans (hb6.mono (by have := HB4.out.size; omega)))
        have l40 : w.heap.size < w4.heap.size := by omega
        have m0 := (hb46.cell (p := ⟨w.heap.size, 0, none⟩) l40).trans f0
        have m1 := (hb46.cell (p := ⟨w.heap.size, 1, none⟩) l40).trans f1
        have HW6 := Lib.hid hw6
        clear f0 f1 g0 g1 g2 g3 k0 k1 k2 k3 hsh5 hb5 hb6 hb46 hw6 HS4 HUP4
        go_upto_region 10 with (fail)
        rw [← HW6.out]
        by_cases hq : q = 0
        · subst hq
          obtain ⟨hur, hul, hus, hbk, hpos⟩ := HUB.out rfl us HEQ.out
          have HBK := Lib.hid (back_any _ _ _ sF.mach ⟨HG.out.wf.mem, HG.out.wf.harts⟩ us us.length w6 HS6.out (UR.of_up HUP6.out hur) (by unfold i64ok; omega) hul)
          simp only [hbk] at HBK
          have HUS := Lib.hid hus
          have HPOS := Lib.hid hpos
          clear hur hul hus hbk hpos HUB HUM
          go_wp2_with fail
          refine HBK.out.mono ?_
          rintro e w7 ⟨⟨vm7, vh7, rfl, hm7⟩, hb7⟩
          obtain ⟨am7, cm7, rfl, -⟩ := hm7.1.open
          obtain ⟨ah7, ch7, rfl, -⟩ := hm7.2.open (fun h hh => hlist_length (HWF.out.harts h hh)) (by omega)
          have l6 : w3.heap.size < w6.heap.size := by omega
          have l7 : w5.heap.size < w6.heap.size := by omega
          have hs7 := hb7.size
          obtain ⟨w8, hw8⟩ : ∃ w8, w8 = w7.alloc (.cells #[.slice am7 m.mem.length cm7, .slice ah7 m.harts.length ch7] 25) := ⟨_, rfl⟩
          have hb8 : Below w7.heap.size w7 w8 := by rw [hw8]; exact Fb.blw
          have hs8 : w7.heap.size + 1 ≤ w8.heap.size := by rw [hw8]; simp
          have hb68 : Below w6.heap.size w6 w8 := hb7.trans (hb8.mono (by omega))
          have y0 : (w8).cell? ⟨w3.heap.size, 0, none⟩ = some (.slice am2 sF.mach.mem.length cm2) := (hb68.cell (p := ⟨w3.heap.size, 0, none⟩) (l6)).trans x0
          have y1 : (w8).cell? ⟨w3.heap.size, 1, none⟩ = some (.slice ah2 sF.mach.harts.length ch2) := (hb68.cell (p := ⟨w3.heap.size, 1, none⟩) (l6)).trans x1
          have y2 : (w8).cell? ⟨w3.heap.size, 2, none⟩ = some (.slice ao2 sF.out.length co2) := (hb68.cell (p := ⟨w3.heap.size, 2, none⟩) (l6)).trans x2
          have y3 : (w8).cell? ⟨w3.heap.size, 3, none⟩ = some (.int .i64 sF.steps) := (hb68.cell (p := ⟨w3.heap.size, 3, none⟩) (l6)).trans x3
          have t0 : (w8).cell? ⟨w5.heap.size, 0, none⟩ = some (.slice am5 sF.mach.mem.length cm5) := (hb68.cell (p := ⟨w5.heap.size, 0, none⟩) (l7)).trans z0
          have t1 : (w8).cell? ⟨w5.heap.size, 1, none⟩ = some (.slice ah5 sF.mach.harts.length ch5) := (hb68.cell (p := ⟨w5.heap.size, 1, none⟩) (l7)).trans z1
          have t2 : (w8).cell? ⟨w5.heap.size, 2, none⟩ = some (.slice ao5 sF.out.length co5) := (hb68.cell (p := ⟨w5.heap.size, 2, none⟩) (l7)).trans z2
          have t3 : (w8).cell? ⟨w5.heap.size, 3, none⟩ = some (.int .i64 sF.steps) := (hb68.cell (p := ⟨w5.heap.size, 3, none⟩) (l7)).trans z3
          have l60 : w.heap.size < w6.heap.size := by omega
          have n0 := (hb68.cell (p := ⟨w.heap.size, 0, none⟩) l60).trans m0
          have n1 := (hb68.cell (p := ⟨w.heap.size, 1, none⟩) l60).trans m1
          have r0 : (w8).cell? ⟨w7.heap.size, 0, none⟩ = some (.slice am7 m.mem.length cm7) := by rw [hw8]; go_cell
          have r1 : (w8).cell? ⟨w7.heap.size, 1, none⟩ = some (.slice ah7 m.harts.length ch7) := by rw [hw8]; go_cell
          have HMA := Lib.hid (machines12 _ _ _ _ sF.mach w8 ⟨HG.out.wf.mem, HG.out.wf.harts⟩ (HS6.out.below hb68) (HT6.out.below hb68))
          have HB8 := Lib.hid (HB6.out.trans (hb68.mono HB6.out.size))
          have HM7 := Lib.hid (fun W (hW : Below w8.heap.size w8 W) => machines12 _ _ _ _ m W HWF.out ((hm7.below hb8).below hW) (HM.out.below (HB8.out.trans (hW.mono HB8.out.size))))
          have HW8 := Lib.hid hw8
          clear x0 x1 x2 x3 z0 z1 z2 z3 m0 m1 hb7 hb8 hb68 hw8 hm7 HBK
          go_upto_region 13 with (fail)
          rw [← HW8.out]
          have hus := HUS.out
          have hpos := HPOS.out
          have hpos' : (0 : Int) < (m.harts.length : Int) := by omega
          go_wp2_with fail
          refine HMA.out.mono ?_
          rintro e w9 ⟨rfl, hb9⟩
          have HMB := Lib.hid (HM7.out w9 hb9)
          have hs9 := hb9.size
          have HB9 := Lib.hid (HB8.out.trans (hb9.mono HB8.out.size))
          have l80 : w.heap.size < w8.heap.size := by omega
          have l87 : w7.heap.size < w8.heap.size := by omega
          have o0 := (hb9.cell (p := ⟨w.heap.size, 0, none⟩) l80).trans n0
          have o1 := (hb9.cell (p := ⟨w.heap.size, 1, none⟩) l80).trans n1
          have v0 : (w9).cell? ⟨w7.heap.size, 0, none⟩ = some (.slice am7 m.mem.length cm7) := (hb9.cell (p := ⟨w7.heap.size, 0, none⟩) (l87)).trans r0
          have v1 : (w9).cell? ⟨w7.heap.size, 1, none⟩ = some (.slice ah7 m.harts.length ch7) := (hb9.cell (p := ⟨w7.heap.size, 1, none⟩) (l87)).trans r1
          clear y0 y1 y2 y3 t0 t1 t2 t3 n0 n1 r0 r1 hb9
          go_wp2_with fail
          refine HMB.out.mono ?_
          rintro e wa ⟨rfl, hba⟩
          have l90 : w.heap.size < w9.heap.size := by omega
          have i1 := (hba.cell (p := ⟨w.heap.size, 1, none⟩) l90).trans o1
          have HBA := Lib.hid (HB9.out.trans (hba.mono HB9.out.size))
          clear o0 o1 v0 v1 hba
          go_wp2_with fail
          go_ret
          exact ⟨rfl, HBA.out⟩
        · obtain rfl : us = [] := List.map_eq_nil_iff.1 (HEQ.out.trans (HUM.out hq))
          go_wp2_with fail
          go_ret
          exact ⟨rfl, HB6.out⟩
      · go_wp2_with fail
        go_ret
        exact ⟨rfl, HB1.out⟩
open RowB in
theorem lifted (os : Os) (started : os.Started) (H : Type) (enc : TypeId × Value → H) :
    ReturnsInHanded {} Try.checked os 7 .any (Rows.undoAllSpec.pre6 enc Try.prog Try.f7 Rows.undoAllRow.domain false) (Rows.undoAllSpec.post enc Try.prog Try.f7 false true false false) := by
  refine RowB.law_lifted (C := Try.checked) (tb := 4) (by kernel_rfl) started (by kernel_rfl) (by kernel_rfl)
    (ChangeSpec.witness6 (enc := enc) (C := Try.checked) false ⟨#[], #[.agg #[.slice none 0 0, .slice none 0 0], .slice none 0 0], []⟩ 8 (by kernel_rfl) (by kernel_rfl) (by kernel_rfl) (by kernel_rfl))
    rfl (fun ds h => by match ds, h with | [_, _], _ => rfl) (by kernel_rfl) (by kernel_rfl) (by kernel_rfl) (of_decide_eq_true (by kernel_rfl)) ?_
  intro W base args ds ps hval hA _ hz
  have hp : (Try.f7).params.toList = [25, 26] := by kernel_rfl
  rw [hp] at hA hz
  obtain ⟨v0, vs0, d0, ds0, p0, q0, hargs, rfl, rfl, h0, r0⟩ := ChangeShapes.trodAll_cons hA
  obtain ⟨v1, vs1, d1, ds1, p1, q1, rfl, rfl, rfl, h1, r1⟩ := ChangeShapes.trodAll_cons r0
  obtain ⟨rfl, rfl, rfl⟩ := ChangeShapes.trodAll_nil r1
  obtain rfl : args = #[v0, v1] := by cases args; simp_all
  obtain ⟨z0, y0⟩ := weights_cons hz
  obtain ⟨z1, y1⟩ := weights_cons y0
  have k0 := hval 0 25 v0 (by kernel_rfl) rfl
  have k1 := hval 1 26 v1 (by kernel_rfl) rfl
  obtain ⟨⟨vm, vh, m⟩, rfl, hm, wf, _, _⟩ := opens_machine.arg Try.underlying25 k0 h0 z0
  obtain ⟨⟨vs, l⟩, rfl, hs, hp, _⟩ := opens_picks.argSlice (g := fun p : Value × List (Int × Int) => p.1) Try.underlying26 k1 h1 z1
  exact walk vm vh v1 m l W hm wf hs hp
theorem proved : Rows.UndoAllSaid :=
  OpenClaim.holds_of_wide 7 Try.f7 rfl rfl rfl rfl rfl rfl rfl ⟨rfl, rfl, rfl, rfl, rfl⟩ rfl rfl rfl rfl rfl (by kernel_rfl) Try.func7 (by kernel_rfl)
    (of_decide_eq_true (by kernel_rfl)) (by unfold Func.isWrapper; first | (rw [if_pos (by decide +kernel)]; kernel_rfl) | (rw [if_neg (by decide +kernel)]; exact ⟨rfl, rfl⟩))
    (fun os started H enc _ => lifted os started H enc)
#print axioms proved
end Go.Proofs.Ytlfnddmncbkjaac.UndoAllLaw
