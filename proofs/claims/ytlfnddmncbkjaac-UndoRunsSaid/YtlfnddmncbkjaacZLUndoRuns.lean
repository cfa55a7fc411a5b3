import Derived.Test.YtlfnddmncbkjaacZWUndo2
import Derived.Test.YtlfnddmncbkjaacZWUndo12
import Derived.Test.YtlfnddmncbkjaacZWPlay
import Derived.Test.YtlfnddmncbkjaacZHB
import Derived.Test.YtlfnddmncbkjaacZMA
set_option linter.unusedVariables false
set_option linter.unusedSimpArgs false
set_option maxRecDepth 100000
set_option maxHeartbeats 4000000
namespace Go.Proofs.Ytlfnddmncbkjaac.Fb
theorem runM_goodU {m : Mach} {l : List (Int × Int)} (wf : m.Wf) : (runM m l).Good := by
  unfold runM
  split
  · rename_i h; exact playM_good l (startM_good wf h)
  · have h : ∀ {α : Type} {P : α → Prop}, ∀ x ∈ ([] : List α), P x := fun x hx => by cases hx
    exact ⟨⟨h, h, Nat.zero_le _, h⟩, h, Nat.le_refl _⟩
def UndoD.Fine (d : UndoD) : Prop := Bytes d.bytes ∧ d.lost.length ≤ 4
theorem undoOf_fine {k : Nat} {s : St} (h : s.Good) (h4 : s.harts.length ≤ 4) : (undoOf k s).Fine := by
  refine ⟨?_, Nat.le_trans (lostN_len _ _ _ _) h4⟩
  show Bytes (if _ then _ else _)
  split
  · exact fun x hx => h.wf.mem x (List.mem_of_mem_drop (List.mem_of_mem_take hx))
  · intro x hx; cases hx
theorem undoPick_fine {k : Nat} : ∀ (n : Nat) {s : St}, s.Good → s.harts.length ≤ 4 → ∀ d ∈ undoPick k n s, d.Fine
  | 0, _, _, _ => fun d hd => by cases hd
  | n + 1, s, h, h4 => by
    unfold undoPick
    split
    · rename_i hs
      intro d hd
      rcases List.mem_cons.1 hd with rfl | hd
      · exact undoOf_fine h h4
      · exact undoPick_fine n (goM_good h hs) (by rw [goM_len]; exact h4) d hd
    · intro d hd; cases hd
theorem undoPlay_fine : ∀ (l : List (Int × Int)) {s : St}, s.Good → s.harts.length ≤ 4 → ∀ d ∈ undoPlay l s, d.Fine
  | [], _, _, _ => fun d hd => by cases hd
  | p :: r, s, h, h4 => by
    intro d hd
    rcases List.mem_append.1 hd with hd | hd
    · exact undoPick_fine _ h h4 d hd
    · exact undoPlay_fine r (pickM_good _ h) (by rw [pickM_len]; exact h4) d hd
end Go.Proofs.Ytlfnddmncbkjaac.Fb
namespace Go.Proofs.Ytlfnddmncbkjaac.UndoRunsLaw
open Go.RowKit Fb W
theorem us_fine {m : Mach} {l : List (Int × Int)} (wf : m.Wf) (hq : wrong m l = 0) {us : List UndD} (h : us.map (·.d) = undoPlay l (startM m)) : (∀ x ∈ us, Bytes x.d.bytes) ∧ (∀ x ∈ us, x.d.lost.length ≤ 4) ∧ us.length ≤ 200000 := by
  obtain ⟨p1, p2, p3, p4, p5, p6⟩ := wrong_parts hq
  have hf := undoPlay_fine l (startM_good wf hq) (show (startM m).harts.length ≤ 4 from p3)
  rw [← h] at hf
  have hl := undoPlay_len l (startM m) (fun p hp => (p6 p hp).2.2.2)
  rw [← h, List.length_map] at hl
  exact ⟨fun x hx => (hf _ (List.mem_map.2 ⟨x, hx, rfl⟩)).1, fun x hx => (hf _ (List.mem_map.2 ⟨x, hx, rfl⟩)).2, by omega⟩
theorem walk (vm vh vs : Value) (m : Mach) (l : List (Int × Int)) (w : World) (hm : MachAt w vm vh m) (wf : m.Wf) (hs : Picks w vs l) (hp : ∀ p ∈ l, i64ok p.1 ∧ i64ok p.2) :
    Calls Try.prog 5 #[.agg #[vm, vh], vs] w fun e w' => e = .returned (.bool true) ∧ Below w.heap.size w w' := by
  obtain ⟨aom, capm, rfl, hcm, hmm, -, -⟩ := hm.1.open
  obtain ⟨aoh, caph, rfl, hch, hmh, -, -⟩ := hm.2.open (fun h hh => hlist_length (wf.harts h hh)) (by omega)
  obtain ⟨aos, caps, rfl, hcs, hms, -, -⟩ := hs.open (fun _ _ => rfl) (by omega)
  clear hcm hmm hch hmh hcs hms
  obtain ⟨w1, hw1⟩ : ∃ w1, w1 = w.alloc (.cells #[.slice aom m.mem.length capm, .slice aoh m.harts.length caph] 25) := ⟨_, rfl⟩
  have hb1 : Below w.heap.size w w1 := by rw [hw1]; exact Fb.blw
  have hs1 : w.heap.size + 1 ≤ w1.heap.size := by rw [hw1]; simp
  have c0 : w1.cell? ⟨w.heap.size, 0, none⟩ = some (.slice aom m.mem.length capm) := by rw [hw1]; go_cell
  have c1 : w1.cell? ⟨w.heap.size, 1, none⟩ = some (.slice aoh m.harts.length caph) := by rw [hw1]; go_cell
  have HWR := Lib.hid (wrong_any _ _ _ m wf l w1 (hm.below hb1) (hs.below hb1) hp)
  have HWK := Lib.hid (fun W hW => work_any (.slice aos l.length caps) l W (hs.below hW))
  have HRN := Lib.hid (fun W hW => urun_any _ _ _ m wf l W (hm.below hW) (hs.below hW) hp)
  have HPL : Hid (wrong m l = 0 → ∀ W, Below w.heap.size w W → _) := Lib.hid (fun hq W hW => play_any _ _ _ m wf l W (hm.below hW) (hs.below hW) hq)
  have HUN : Hid (wrong m l = 0 → ∀ W, Below w.heap.size w W → _) := Lib.hid (fun hq W hW => undos12_any _ _ _ m wf l W (hm.below hW) (hs.below hW) hq)
  have HUF : Hid (wrong m l = 0 → ∀ (us : List UndD), us.map (·.d) = undoPlay l (startM m) → (∀ x ∈ us, Bytes x.d.bytes) ∧ (∀ x ∈ us, x.d.lost.length ≤ 4) ∧ us.length ≤ 200000) := Lib.hid (fun hq _ h => us_fine wf hq h)
  have HG : Hid ((runM m l).Good) := Lib.hid (runM_goodU wf)
  have HW1 := Lib.hid hw1
  have HRM : Hid (runM m l = if wrong m l = 0 then playM l (startM m) else ⟨[], [], [], 0⟩) := Lib.hid rfl
  have HUM : Hid (undoM m l = if wrong m l = 0 then undoPlay l (startM m) else []) := Lib.hid rfl
  have HSN : Hid (Picks w (.slice aos l.length caps) l) := Lib.hid hs
  obtain ⟨sF, hsF⟩ : ∃ s, s = runM m l := ⟨_, rfl⟩
  obtain ⟨uF, huF⟩ : ∃ s, s = undoM m l := ⟨_, rfl⟩
  obtain ⟨q, hq⟩ : ∃ q, q = wrong m l := ⟨_, rfl⟩
  simp only [← hq, ← hsF, ← huF] at HWR HRN HPL HG HRM HUN HUF HUM
  have HB1 := Lib.hid hb1
  clear hw1 hm hs hp hq hsF huF hb1
  go_enter Try.func5, Try.ntmps5
  go_upto_region 1 with (fail)
  rw [← HW1.out]
  go_wp2_with fail
  refine HWR.out.mono ?_
  rintro e w2 ⟨rfl, hb2⟩
  have hs2 := hb2.size
  have l1 : w.heap.size < w1.heap.size := by omega
  have d0 := (hb2.cell (p := ⟨w.heap.size, 0, none⟩) l1).trans c0
  have d1 := (hb2.cell (p := ⟨w.heap.size, 1, none⟩) l1).trans c1
  have HB2 := Lib.hid (HB1.out.trans (hb2.mono (by omega)))
  clear c0 c1 hb2 HB1 HWR
  have HSM := Lib.hid (fun vm1 vh1 vo1 vm2 vh2 vo2 W (h1 : ShownAt W vm1 vh1 vo1 sF) (h2 : ShownAt W vm2 vh2 vo2 sF) => same5 vm1 vh1 vo1 vm2 vh2 vo2 sF.mach sF.out sF.steps W ⟨HG.out.wf.mem, HG.out.wf.harts⟩ h1.mach h2.mach h1.out h2.out)
  by_cases hq : q = 0
  · subst hq
    have hrm : sF = playM l (startM m) := HRM.out
    have hum : uF = undoPlay l (startM m) := HUM.out
    have HPL2 : Hid (∀ W, Below w.heap.size w W → Calls Try.prog 15 #[.agg #[.slice aom m.mem.length capm, .slice aoh m.harts.length caph], .slice aos l.length caps] W fun e w' => (∃ vm vh vo, e = .returned (.agg #[vm, vh, vo, .int .i64 sF.steps]) ∧ ShownAt w' vm vh vo sF) ∧ Below W.heap.size W w') := Lib.hid (fun W hW => by
      have := HPL.out rfl W hW
      rw [← hrm] at this
      exact this)
    have HUN2 := Lib.hid (HUN.out rfl)
    have HUF2 : Hid (∀ (us : List UndD), us.map (·.d) = uF → (∀ x ∈ us, Bytes x.d.bytes) ∧ (∀ x ∈ us, x.d.lost.length ≤ 4) ∧ us.length ≤ 200000) := Lib.hid (fun us h => HUF.out rfl us (h.trans hum))
    have HUQ := Lib.hid hum
    clear HPL HRM hrm HUN HUF hum
    go_wp2_with fail
    refine (HWK.out _ HB2.out).mono ?_
    rintro e w2' ⟨⟨n, rfl⟩, rfl⟩
    by_cases h3 : n ≤ 600
    · have h3' : ¬ (600 : Int) < (n : Int) := by omega
      clear h3
      have HS2 := Lib.hid hs2
      clear hs2
      go_wp2_with fail
      refine (HRN.out _ HB2.out).mono ?_
      rintro e w3 ⟨⟨vm3, vh3, vo3, vu, us, rfl, hsh, hup, heq⟩, hb3⟩
      obtain ⟨am2, cm2, rfl, -⟩ := hsh.mach.1.open
      obtain ⟨ah2, ch2, rfl, -⟩ := hsh.mach.2.open (fun h hh => hlist_length (HG.out.wf.harts h hh)) (by omega)
      obtain ⟨ao2, co2, rfl, -⟩ := hsh.out.open
      have l2 : w.heap.size < w2'.heap.size := by have := HS2.out; omega
      have e0 := (hb3.cell (p := ⟨w.heap.size, 0, none⟩) l2).trans d0
      have e1 := (hb3.cell (p := ⟨w.heap.size, 1, none⟩) l2).trans d1
      have hs3 := hb3.size
      have HB3 := Lib.hid (HB2.out.trans (hb3.mono (by omega)))
      obtain ⟨w4, hw4⟩ : ∃ w4, w4 = w3.alloc (.cells #[.slice am2 sF.mach.mem.length cm2, .slice ah2 sF.mach.harts.length ch2, .slice ao2 sF.out.length co2, .int .i64 sF.steps] 29) := ⟨_, rfl⟩
      have hb4 : Below w3.heap.size w3 w4 := by rw [hw4]; exact Fb.blw
      have hs4 : w3.heap.size + 1 ≤ w4.heap.size := by rw [hw4]; simp
      have l3 : w.heap.size < w3.heap.size := by omega
      have f0 := (hb4.cell (p := ⟨w.heap.size, 0, none⟩) l3).trans e0
      have f1 := (hb4.cell (p := ⟨w.heap.size, 1, none⟩) l3).trans e1
      have g0 : (w4).cell? ⟨w3.heap.size, 0, none⟩ = some (.slice am2 sF.mach.mem.length cm2) := by rw [hw4]; go_cell
      have g1 : (w4).cell? ⟨w3.heap.size, 1, none⟩ = some (.slice ah2 sF.mach.harts.length ch2) := by rw [hw4]; go_cell
      have g2 : (w4).cell? ⟨w3.heap.size, 2, none⟩ = some (.slice ao2 sF.out.length co2) := by rw [hw4]; go_cell
      have g3 : (w4).cell? ⟨w3.heap.size, 3, none⟩ = some (.int .i64 sF.steps) := by rw [hw4]; go_cell
      have HS4 : Hid (ShownAt w4 (.slice am2 sF.mach.mem.length cm2) (.slice ah2 sF.mach.harts.length ch2) (.slice ao2 sF.out.length co2) sF) := Lib.hid ⟨hsh.mach.below hb4, hsh.out.below hb4⟩
      have HUP4 := Lib.hid ((hup.below hb4).mono (B' := w.heap.size) (by omega))
      have HEQ := Lib.hid heq
      have HB4 := Lib.hid (HB3.out.trans (hb4.mono (by omega)))
      have HW4 := Lib.hid hw4
      clear d0 d1 e0 e1 hsh hb3 hb4 hw4 HRN HB3 hup heq
      go_upto_region 5 with (fail)
      rw [← HW4.out]
      go_wp2_with fail
      refine (HPL2.out _ HB4.out).mono ?_
      rintro e w5 ⟨⟨vm5, vh5, vo5, rfl, hsh5⟩, hb5⟩
      obtain ⟨am5, cm5, rfl, -⟩ := hsh5.mach.1.open
      obtain ⟨ah5, ch5, rfl, -⟩ := hsh5.mach.2.open (fun h hh => hlist_length (HG.out.wf.harts h hh)) (by omega)
      obtain ⟨ao5, co5, rfl, -⟩ := hsh5.out.open
      have l4 : w3.heap.size < w4.heap.size := by omega
      have k0 : (w5).cell? ⟨w3.heap.size, 0, none⟩ = some (.slice am2 sF.mach.mem.length cm2) := (hb5.cell (p := ⟨w3.heap.size, 0, none⟩) (l4)).trans g0
      have k1 : (w5).cell? ⟨w3.heap.size, 1, none⟩ = some (.slice ah2 sF.mach.harts.length ch2) := (hb5.cell (p := ⟨w3.heap.size, 1, none⟩) (l4)).trans g1
      have k2 : (w5).cell? ⟨w3.heap.size, 2, none⟩ = some (.slice ao2 sF.out.length co2) := (hb5.cell (p := ⟨w3.heap.size, 2, none⟩) (l4)).trans g2
      have k3 : (w5).cell? ⟨w3.heap.size, 3, none⟩ = some (.int .i64 sF.steps) := (hb5.cell (p := ⟨w3.heap.size, 3, none⟩) (l4)).trans g3
      have hs5 := hb5.size
      obtain ⟨w6, hw6⟩ : ∃ w6, w6 = w5.alloc (.cells #[.slice am5 sF.mach.mem.length cm5, .slice ah5 sF.mach.harts.length ch5, .slice ao5 sF.out.length co5, .int .i64 sF.steps] 29) := ⟨_, rfl⟩
      have hb6 : Below w5.heap.size w5 w6 := by rw [hw6]; exact Fb.blw
      have hs6 : w5.heap.size + 1 ≤ w6.heap.size := by rw [hw6]; simp
      have l5 : w3.heap.size < w5.heap.size := by omega
      have hb46 : Below w4.heap.size w4 w6 := hb5.trans (hb6.mono (by omega))
      have x0 : (w6).cell? ⟨w3.heap.size, 0, none⟩ = some (.slice am2 sF.mach.mem.length cm2) := (hb6.cell (p := ⟨w3.heap.size, 0, none⟩) (l5)).trans k0
      have x1 : (w6).cell? ⟨w3.heap.size, 1, none⟩ = some (.slice ah2 sF.mach.harts.length ch2) := (hb6.cell (p := ⟨w3.heap.size, 1, none⟩) (l5)).trans k1
      have x2 : (w6).cell? ⟨w3.heap.size, 2, none⟩ = some (.slice ao2 sF.out.length co2) := (hb6.cell (p := ⟨w3.heap.size, 2, none⟩) (l5)).trans k2
      have x3 : (w6).cell? ⟨w3.heap.size, 3, none⟩ = some (.int .i64 sF.steps) := (hb6.cell (p := ⟨w3.heap.size, 3, none⟩) (l5)).trans k3
      have z0 : (w6).cell? ⟨w5.heap.size, 0, none⟩ = some (.slice am5 sF.mach.mem.length cm5) := by rw [hw6]; go_cell
      have z1 : (w6).cell? ⟨w5.heap.size, 1, none⟩ = some (.slice ah5 sF.mach.harts.length ch5) := by rw [hw6]; go_cell
      have z2 : (w6).cell? ⟨w5.heap.size, 2, none⟩ = some (.slice ao5 sF.out.length co5) := by rw [hw6]; go_cell
      have z3 : (w6).cell? ⟨w5.heap.size, 3, none⟩ = some (.int .i64 sF.steps) := by rw [hw6]; go_cell
      have HSA : Hid (∀ W, Below w6.heap.size w6 W → _) := Lib.hid (fun W hW => HSM.out (.slice am2 sF.mach.mem.length cm2) (.slice ah2 sF.mach.harts.length ch2) (.slice ao2 sF.out.length co2) (.slice am5 sF.mach.mem.length cm5) (.slice ah5 sF.mach.harts.length ch5) (.slice ao5 sF.out.length co5) W ⟨(HS4.out.mach.below hb46).below hW, (HS4.out.out.below hb46).below hW⟩ ⟨(hsh5.mach.below hb6).below hW, (hsh5.out.below hb6).below hW⟩)
      have HUP6 := Lib.hid (HUP4.out.below hb46)
      have HB6 := Lib.hid ((HB4.out.trans (hb5.mono (by have := HB4.out.size; omega))).trans (hb6.mono (by have := HB4.out.size; omega)))
      have l40 : w.heap.size < w4.heap.size := by omega
      have m0 := (hb46.cell (p := ⟨w.heap.size, 0, none⟩) l40).trans f0
      have m1 := (hb46.cell (p := ⟨w.heap.size, 1, none⟩) l40).trans f1
      have HW6 := Lib.hid hw6
      clear f0 f1 g0 g1 g2 g3 k0 k1 k2 k3 hsh5 hb5 hb6 hb46 hw6
      go_upto_region 8 with (fail)
      rw [← HW6.out]
      go_wp2_with fail
      refine (HUN2.out _ HB6.out).mono ?_
      rintro e w7 ⟨⟨vu2, us2, rfl, hup2, heq2⟩, hb7⟩
      have l6 : w3.heap.size < w6.heap.size := by omega
      have l7 : w5.heap.size < w6.heap.size := by omega
      have y0 : (w7).cell? ⟨w3.heap.size, 0, none⟩ = some (.slice am2 sF.mach.mem.length cm2) := (hb7.cell (p := ⟨w3.heap.size, 0, none⟩) (l6)).trans x0
      have y1 : (w7).cell? ⟨w3.heap.size, 1, none⟩ = some (.slice ah2 sF.mach.harts.length ch2) := (hb7.cell (p := ⟨w3.heap.size, 1, none⟩) (l6)).trans x1
      have y2 : (w7).cell? ⟨w3.heap.size, 2, none⟩ = some (.slice ao2 sF.out.length co2) := (hb7.cell (p := ⟨w3.heap.size, 2, none⟩) (l6)).trans x2
      have y3 : (w7).cell? ⟨w3.heap.size, 3, none⟩ = some (.int .i64 sF.steps) := (hb7.cell (p := ⟨w3.heap.size, 3, none⟩) (l6)).trans x3
      have t0 : (w7).cell? ⟨w5.heap.size, 0, none⟩ = some (.slice am5 sF.mach.mem.length cm5) := (hb7.cell (p := ⟨w5.heap.size, 0, none⟩) (l7)).trans z0
      have t1 : (w7).cell? ⟨w5.heap.size, 1, none⟩ = some (.slice ah5 sF.mach.harts.length ch5) := (hb7.cell (p := ⟨w5.heap.size, 1, none⟩) (l7)).trans z1
      have t2 : (w7).cell? ⟨w5.heap.size, 2, none⟩ = some (.slice ao5 sF.out.length co5) := (hb7.cell (p := ⟨w5.heap.size, 2, none⟩) (l7)).trans z2
      have t3 : (w7).cell? ⟨w5.heap.size, 3, none⟩ = some (.int .i64 sF.steps) := (hb7.cell (p := ⟨w5.heap.size, 3, none⟩) (l7)).trans z3
      have HS7 := Lib.hid (HSA.out w7 hb7)
      have HUA := Lib.hid (HUP6.out.below hb7)
      have HUB := Lib.hid (hup2.mono (B' := w.heap.size) (by omega))
      have HQ2 : Hid (us2.map (·.d) = uF) := Lib.hid (heq2.trans HUQ.out.symm)
      have HB7 := Lib.hid (HB6.out.trans (hb7.mono HB6.out.size))
      clear x0 x1 x2 x3 z0 z1 z2 z3 m0 m1 hup2 heq2 hb7
      go_wp2_with fail
      refine HS7.out.mono ?_
      rintro e w8 ⟨rfl, hb8⟩
      have HSU := Lib.hid (same12_any w.heap.size vu vu2 us us2 w8 (HUA.out.below hb8) (HUB.out.below hb8) (HEQ.out.trans HQ2.out.symm) (HUF2.out us HEQ.out).1 (HUF2.out us HEQ.out).2.1 (HUF2.out us HEQ.out).2.2)
      have HB8 := Lib.hid (HB7.out.trans (hb8.mono HB7.out.size))
      clear hb8 y0 y1 y2 y3 t0 t1 t2 t3
      go_wp2_with fail
      refine HSU.out.mono ?_
      rintro e w9 ⟨rfl, hb9⟩
      go_wp2_with fail
      go_ret
      exact ⟨rfl, HB8.out.trans (hb9.mono HB8.out.size)⟩
    · have h3' : (600 : Int) < (n : Int) := by omega
      clear h3
      go_wp2_with fail
      go_ret
      exact ⟨rfl, HB2.out⟩
  · have hsn : sF = ⟨[], [], [], 0⟩ := HRM.out.trans (if_neg hq)
    have hun : uF = [] := HUM.out.trans (if_neg hq)
    subst hsn
    have HS2 := Lib.hid hs2
    clear hs2
    go_wp2_with fail
    refine (HRN.out _ HB2.out).mono ?_
    rintro e w3 ⟨⟨vm3, vh3, vo3, vu, us, rfl, hsh, hup, heq⟩, hb3⟩
    obtain rfl : us = [] := List.map_eq_nil_iff.1 (heq.trans hun)
    obtain ⟨au, cu, rfl⟩ := owns_slice hup.own
    obtain ⟨am2, cm2, rfl, -⟩ := hsh.mach.1.open
    obtain ⟨ah2, ch2, rfl, -⟩ := hsh.mach.2.open (fun h hh => hlist_length (HG.out.wf.harts h hh)) (by omega)
    obtain ⟨ao2, co2, rfl, -⟩ := hsh.out.open
    have hs3 := hb3.size
    have HB3 := Lib.hid (HB2.out.trans (hb3.mono (by have := HS2.out; omega)))
    obtain ⟨w4, hw4⟩ : ∃ w4, w4 = w3.alloc (.cells #[.slice am2 0 cm2, .slice ah2 0 ch2, .slice ao2 0 co2, .int .i64 0] 29) := ⟨_, rfl⟩
    have hb4 : Below w3.heap.size w3 w4 := by rw [hw4]; exact Fb.blw
    have g0 : (w4).cell? ⟨w3.heap.size, 0, none⟩ = some (.slice am2 0 cm2) := by rw [hw4]; go_cell
    have g1 : (w4).cell? ⟨w3.heap.size, 1, none⟩ = some (.slice ah2 0 ch2) := by rw [hw4]; go_cell
    have g2 : (w4).cell? ⟨w3.heap.size, 2, none⟩ = some (.slice ao2 0 co2) := by rw [hw4]; go_cell
    have g3 : (w4).cell? ⟨w3.heap.size, 3, none⟩ = some (.int .i64 0) := by rw [hw4]; go_cell
    have HS5 := Lib.hid (HSM.out (.slice am2 0 cm2) (.slice ah2 0 ch2) (.slice ao2 0 co2) (.slice none 0 0) (.slice none 0 0) (.slice none 0 0) w4 ⟨hsh.mach.below hb4, hsh.out.below hb4⟩ (shown_nil w4 0))
    have HB4 := Lib.hid (HB3.out.trans (hb4.mono (by have := HB3.out.size; omega)))
    have HW4 := Lib.hid hw4
    clear d0 d1 hsh hb3 hb4 hw4 HRN HB3 hup heq hun
    go_upto_region 5 with (fail)
    (try dsimp only [St.mach, List.length_nil])
    rw [← HW4.out]
    go_wp2_with (first | (go_at_call 11; refine HS5.out.mono ?_; rintro e w7 ⟨rfl, hb7⟩))
    go_ret
    exact ⟨rfl, HB4.out.trans (hb7.mono HB4.out.size)⟩
open RowB in
theorem lifted (os : Os) (started : os.Started) (H : Type) (enc : TypeId × Value → H) :
    ReturnsInHanded {} Try.checked os 5 .any (Rows.undoRunsSpec.pre6 enc Try.prog Try.f5 Rows.undoRunsRow.domain false) (Rows.undoRunsSpec.post enc Try.prog Try.f5 false true false false) := by
  refine RowB.law_lifted (C := Try.checked) (tb := 4) (by kernel_rfl) started (by kernel_rfl) (by kernel_rfl)
    (ChangeSpec.witness6 (enc := enc) (C := Try.checked) false ⟨#[], #[.agg #[.slice none 0 0, .slice none 0 0], .slice none 0 0], []⟩ 8 (by kernel_rfl) (by kernel_rfl) (by kernel_rfl) (by kernel_rfl))
    rfl (fun ds h => by match ds, h with | [_, _], _ => rfl) (by kernel_rfl) (by kernel_rfl) (by kernel_rfl) (of_decide_eq_true (by kernel_rfl)) ?_
  intro W base args ds ps hval hA _ hz
  have hp : (Try.f5).params.toList = [25, 26] := by kernel_rfl
  rw [hp] at hA hz
  obtain ⟨v0, vs0, d0, ds0, p0, q0, hargs, rfl, rfl, h0, r0⟩ := ChangeShapes.trodAll_cons hA
  obtain ⟨v1, vs1, d1, ds1, p1, q1, rfl, rfl, rfl, h1, r1⟩ := ChangeShapes.trodAll_cons r0
  obtain ⟨rfl, rfl, rfl⟩ := ChangeShapes.trodAll_nil r1
  obtain rfl : args = #[v0, v1] := by cases args; simp_all
  obtain ⟨z0, y0⟩ := weights_cons hz
  obtain ⟨z1, y1⟩ := weights_cons y0
  have k0 := hval 0 25 v0 (by kernel_rfl) rfl
  have k1 := hval 1 26 v1 (by kernel_rfl) rfl
  obtain ⟨⟨vm, vh, m⟩, rfl, hm, wf, _, _⟩ := opens_machine.arg Try.underlying25 k0 h0 z0
  obtain ⟨⟨vs, l⟩, rfl, hs, hp, _⟩ := opens_picks.argSlice (g := fun p : Value × List (Int × Int) => p.1) Try.underlying26 k1 h1 z1
  exact walk vm vh v1 m l W hm wf hs hp
theorem proved : Rows.UndoRunsSaid :=
  OpenClaim.holds_of_wide 5 Try.f5 rfl rfl rfl rfl rfl rfl rfl ⟨rfl, rfl, rfl, rfl, rfl⟩ rfl rfl rfl rfl rfl (by kernel_rfl) Try.func5 (by kernel_rfl)
    (of_decide_eq_true (by kernel_rfl)) (by unfold Func.isWrapper; first | (rw [if_pos (by decide +kernel)]; kernel_rfl) | (rw [if_neg (by decide +kernel)]; exact ⟨rfl, rfl⟩))
    (fun os started H enc _ => lifted os started H enc)
#print axioms proved
end Go.Proofs.Ytlfnddmncbkjaac.UndoRunsLaw
