/- ferrybridgeref7.Wrong, walked. -/
import Derived.Test.YtlfnddmncbkjaabZWMay7
import Derived.Test.YtlfnddmncbkjaabZWMay
import Derived.Test.YtlfnddmncbkjaabZFbRun7d
import Derived.Test.YtlfnddmncbkjaabZMA
namespace Go.Proofs.Ytlfnddmncbkjaab.Fb
set_option linter.unusedVariables false
set_option linter.unusedSimpArgs false
def wrong7 (code : List MicD) (h : Hart) (m : List Int) (steps : Int) : Bool := !(mayL code) || !(h.ok) || h.state != 0 || decide (4096 < m.length) || decide (steps < 0) || decide (400 < steps)
end Go.Proofs.Ytlfnddmncbkjaab.Fb
namespace Go.Proofs.Ytlfnddmncbkjaab.W
open Go.RowKit Fb
set_option maxRecDepth 100000 in
set_option maxHeartbeats 1600000 in
theorem wrong7_any (vc : Value) (code : List MicD) (h : Hart) (vm : Value) (m : List Int) (steps : Int) (w : World) (hc : Sl w vc 5 code.length (code.flatMap mlist)) (hok : ∀ x ∈ code, x.Ok) (wf : h.Wf) (hm : Ints .u8 w vm m) :
    Calls Try.prog 38 #[vc, .agg (hcells h), vm, .int .i64 steps] w fun e w' => e = .returned (.bool (wrong7 code h m steps)) ∧ Below w.heap.size w w' := by
  obtain ⟨am, cm, rfl, -⟩ := hm.open
  obtain ⟨w1, hw1⟩ : ∃ w1, w1 = w.alloc (.cells (hcells h) 57) := ⟨_, rfl⟩
  have hb1 : Below w.heap.size w w1 := by rw [hw1]; exact (by repeat (first | with_reducible exact Below.refl _ _ | with_reducible refine below_drewN ?_ _ | ((with_reducible refine Below.setCell ?_ ?hq _); case hq => (first | (simp; done) | (simp; omega))) | ((with_reducible refine Below.alloc ?_ ?hq _); case hq => (first | (simp; done) | (simp; omega)))))
  have hat : At w1 w.heap.size 0 (hlist h) := by rw [hw1]; exact at_alloc w (hlist h) 57 (0, 0)
  have l1 : w.heap.size < w1.heap.size := by rw [hw1]; simp
  have hsz := hcells_size wf
  have hcsz : (Try.prog.info? 57).map (·.size) = some (hcells h).size := by rw [hsz]; kernel_rfl
  have HMA := Lib.hid (may7_any vc code w1 (Sl.below hc hb1) hok)
  have HM4 := Lib.hid (fun W => may4_any h wf W)
  obtain ⟨mb, hmb⟩ : ∃ mb, mb = mayL code := ⟨_, rfl⟩
  obtain ⟨hk, hhk⟩ : ∃ hk, hk = h.ok := ⟨_, rfl⟩
  rw [← hmb] at HMA
  rw [← hhk] at HM4
  have hres : wrong7 code h m steps = (!mb || !hk || h.state != 0 || decide (4096 < m.length) || decide (steps < 0) || decide (400 < steps)) := by unfold wrong7; rw [← hmb, ← hhk]
  obtain ⟨res, hr⟩ : ∃ res, res = wrong7 code h m steps := ⟨_, rfl⟩
  rw [hres] at hr
  rw [hres, ← hr]
  obtain ⟨ln, hln⟩ : ∃ ln, ln = m.length := ⟨_, rfl⟩
  obtain ⟨hs, hhs⟩ : ∃ s, s = h.state := ⟨_, rfl⟩
  rw [← hln, ← hhs] at hr
  rw [← hln]
  have HST := hlist_state wf
  rw [← hhs] at HST
  have HR := Lib.hid hr
  have HB1 := Lib.hid hb1
  have HW1 := Lib.hid hw1
  have HAT := Lib.hid hat
  clear hc hok wf hm hb1 hw1 hmb hhk hres hr hln hhs hat
  cases mb with
  | false =>
    go_enter Try.func38, Try.ntmps38
    go_upto_region 1 with (fail)
    show Code.wp _ _ _ _ (w.alloc (.cells (hcells h) 57))
    rw [← HW1.out]
    go_wp2_with fail
    refine HMA.out.mono ?_
    rintro e w2 ⟨rfl, hb2⟩
    have hat2 := HAT.out.below hb2
    have s35 := hat2.get HST
    simp only [Nat.zero_add] at s35
    have l2 : w.heap.size < w2.heap.size := lt_of_cell s35
    have HBF := Lib.hid (HB1.out.trans (hb2.mono HB1.out.size))
    go_wp2_with (first | (refine wpList_load_g (by rfl) 57 _ rfl w.heap.size 0 rfl (hcells h) _ hat2 Try.underlying57 rfl hcsz ?_) | (go_at_call 32; refine (HM4.out _).mono ?_; rintro e w3 ⟨rfl, hb3⟩; have t35 := (hb3.cell (p := ⟨w.heap.size, 35, none⟩) l2).trans s35; have HBG := Lib.hid (HBF.out.trans (hb3.mono HBF.out.size))))
    go_ret
    rw [HR.out]
    exact ⟨by simp, HBF.out⟩
  | true =>
    cases hk with
    | false =>
      go_enter Try.func38, Try.ntmps38
      go_upto_region 1 with (fail)
      show Code.wp _ _ _ _ (w.alloc (.cells (hcells h) 57))
      rw [← HW1.out]
      go_wp2_with fail
      refine HMA.out.mono ?_
      rintro e w2 ⟨rfl, hb2⟩
      have hat2 := HAT.out.below hb2
      have s35 := hat2.get HST
      simp only [Nat.zero_add] at s35
      have l2 : w.heap.size < w2.heap.size := lt_of_cell s35
      have HBF := Lib.hid (HB1.out.trans (hb2.mono HB1.out.size))
      go_wp2_with (first | (refine wpList_load_g (by rfl) 57 _ rfl w.heap.size 0 rfl (hcells h) _ hat2 Try.underlying57 rfl hcsz ?_) | (go_at_call 32; refine (HM4.out _).mono ?_; rintro e w3 ⟨rfl, hb3⟩; have t35 := (hb3.cell (p := ⟨w.heap.size, 35, none⟩) l2).trans s35; have HBG := Lib.hid (HBF.out.trans (hb3.mono HBF.out.size))))
      go_ret
      rw [HR.out]
      exact ⟨by simp, HBG.out⟩
    | true =>
      by_cases q0 : hs = 0
      · have p0 : (hs != 0) = false := by simp [q0]
        by_cases q1 : 4096 < ln
        · have p1 : decide (4096 < (ln : Int)) = true := decide_eq_true (by omega)
          have p1' : decide (4096 < ln) = true := decide_eq_true q1
          clear q0 q1
          go_enter Try.func38, Try.ntmps38
          go_upto_region 1 with (fail)
          show Code.wp _ _ _ _ (w.alloc (.cells (hcells h) 57))
          rw [← HW1.out]
          go_wp2_with fail
          refine HMA.out.mono ?_
          rintro e w2 ⟨rfl, hb2⟩
          have hat2 := HAT.out.below hb2
          have s35 := hat2.get HST
          simp only [Nat.zero_add] at s35
          have l2 : w.heap.size < w2.heap.size := lt_of_cell s35
          have HBF := Lib.hid (HB1.out.trans (hb2.mono HB1.out.size))
          go_wp2_with (first | (refine wpList_load_g (by rfl) 57 _ rfl w.heap.size 0 rfl (hcells h) _ hat2 Try.underlying57 rfl hcsz ?_) | (go_at_call 32; refine (HM4.out _).mono ?_; rintro e w3 ⟨rfl, hb3⟩; have t35 := (hb3.cell (p := ⟨w.heap.size, 35, none⟩) l2).trans s35; have HBG := Lib.hid (HBF.out.trans (hb3.mono HBF.out.size))))
          go_ret
          rw [HR.out]
          exact ⟨by simp [p0, p1'], HBG.out⟩
        · have p1 : decide (4096 < (ln : Int)) = false := decide_eq_false (by omega)
          have p1' : decide (4096 < ln) = false := decide_eq_false q1
          by_cases q2 : steps < 0
          · have p2 : decide (steps < 0) = true := decide_eq_true q2
            clear q0 q1 q2
            go_enter Try.func38, Try.ntmps38
            go_upto_region 1 with (fail)
            show Code.wp _ _ _ _ (w.alloc (.cells (hcells h) 57))
            rw [← HW1.out]
            go_wp2_with fail
            refine HMA.out.mono ?_
            rintro e w2 ⟨rfl, hb2⟩
            have hat2 := HAT.out.below hb2
            have s35 := hat2.get HST
            simp only [Nat.zero_add] at s35
            have l2 : w.heap.size < w2.heap.size := lt_of_cell s35
            have HBF := Lib.hid (HB1.out.trans (hb2.mono HB1.out.size))
            go_wp2_with (first | (refine wpList_load_g (by rfl) 57 _ rfl w.heap.size 0 rfl (hcells h) _ hat2 Try.underlying57 rfl hcsz ?_) | (go_at_call 32; refine (HM4.out _).mono ?_; rintro e w3 ⟨rfl, hb3⟩; have t35 := (hb3.cell (p := ⟨w.heap.size, 35, none⟩) l2).trans s35; have HBG := Lib.hid (HBF.out.trans (hb3.mono HBF.out.size))))
            go_ret
            rw [HR.out]
            exact ⟨by simp [p0, p1', p2], HBG.out⟩
          · have p2 : decide (steps < 0) = false := decide_eq_false q2
            by_cases q3 : 400 < steps
            · have p3 : decide (400 < steps) = true := decide_eq_true q3
              clear q0 q1 q2 q3
              go_enter Try.func38, Try.ntmps38
              go_upto_region 1 with (fail)
              show Code.wp _ _ _ _ (w.alloc (.cells (hcells h) 57))
              rw [← HW1.out]
              go_wp2_with fail
              refine HMA.out.mono ?_
              rintro e w2 ⟨rfl, hb2⟩
              have hat2 := HAT.out.below hb2
              have s35 := hat2.get HST
              simp only [Nat.zero_add] at s35
              have l2 : w.heap.size < w2.heap.size := lt_of_cell s35
              have HBF := Lib.hid (HB1.out.trans (hb2.mono HB1.out.size))
              go_wp2_with (first | (refine wpList_load_g (by rfl) 57 _ rfl w.heap.size 0 rfl (hcells h) _ hat2 Try.underlying57 rfl hcsz ?_) | (go_at_call 32; refine (HM4.out _).mono ?_; rintro e w3 ⟨rfl, hb3⟩; have t35 := (hb3.cell (p := ⟨w.heap.size, 35, none⟩) l2).trans s35; have HBG := Lib.hid (HBF.out.trans (hb3.mono HBF.out.size))))
              go_ret
              rw [HR.out]
              exact ⟨by simp [p0, p1', p2, p3], HBG.out⟩
            · have p3 : decide (400 < steps) = false := decide_eq_false q3
              clear q0 q1 q2 q3
              go_enter Try.func38, Try.ntmps38
              go_upto_region 1 with (fail)
              show Code.wp _ _ _ _ (w.alloc (.cells (hcells h) 57))
              rw [← HW1.out]
              go_wp2_with fail
              refine HMA.out.mono ?_
              rintro e w2 ⟨rfl, hb2⟩
              have hat2 := HAT.out.below hb2
              have s35 := hat2.get HST
              simp only [Nat.zero_add] at s35
              have l2 : w.heap.size < w2.heap.size := lt_of_cell s35
              have HBF := Lib.hid (HB1.out.trans (hb2.mono HB1.out.size))
              go_wp2_with (first | (refine wpList_load_g (by rfl) 57 _ rfl w.heap.size 0 rfl (hcells h) _ hat2 Try.underlying57 rfl hcsz ?_) | (go_at_call 32; refine (HM4.out _).mono ?_; rintro e w3 ⟨rfl, hb3⟩; have t35 := (hb3.cell (p := ⟨w.heap.size, 35, none⟩) l2).trans s35; have HBG := Lib.hid (HBF.out.trans (hb3.mono HBF.out.size))))
              go_ret
              rw [HR.out]
              exact ⟨by simp [p0, p1', p2, p3], HBG.out⟩
      · have p0 : (hs != 0) = true := by simp [q0]
        clear q0
        go_enter Try.func38, Try.ntmps38
        go_upto_region 1 with (fail)
        show Code.wp _ _ _ _ (w.alloc (.cells (hcells h) 57))
        rw [← HW1.out]
        go_wp2_with fail
        refine HMA.out.mono ?_
        rintro e w2 ⟨rfl, hb2⟩
        have hat2 := HAT.out.below hb2
        have s35 := hat2.get HST
        simp only [Nat.zero_add] at s35
        have l2 : w.heap.size < w2.heap.size := lt_of_cell s35
        have HBF := Lib.hid (HB1.out.trans (hb2.mono HB1.out.size))
        go_wp2_with (first | (refine wpList_load_g (by rfl) 57 _ rfl w.heap.size 0 rfl (hcells h) _ hat2 Try.underlying57 rfl hcsz ?_) | (go_at_call 32; refine (HM4.out _).mono ?_; rintro e w3 ⟨rfl, hb3⟩; have t35 := (hb3.cell (p := ⟨w.heap.size, 35, none⟩) l2).trans s35; have HBG := Lib.hid (HBF.out.trans (hb3.mono HBF.out.size))))
        go_ret
        rw [HR.out]
        exact ⟨by simp [p0], HBG.out⟩
end Go.Proofs.Ytlfnddmncbkjaab.W
