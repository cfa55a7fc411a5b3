/- hart.Core.Atom, walked. -/
import Derived.Test.YtlfnddmncbkjaabZWHart1
import Derived.Test.YtlfnddmncbkjaabZMB
namespace Go.Proofs.Ytlfnddmncbkjaab.W
set_option linter.unusedVariables false
set_option linter.unusedSimpArgs false
open Go.RowKit Fb
section
variable {cp hb ho : Nat} {vm : Value} {d : CoreD} {w : World}
set_option maxRecDepth 100000 in
set_option maxHeartbeats 800000 in
theorem atom_any (h : CoreAt cp hb ho vm 34 w d) (wf : d.Wf) (op a b : Int) (hop : 46 ≤ op ∧ op ≤ 56) (ha : U32 a) (hb' : U32 b) :
    Calls Try.prog 131 #[.pointer (some ⟨cp, 0, none⟩), .int .i64 op, .int .u32 a, .int .u32 b] w fun e w' => e = .returned (.tuple #[.int .u32 (atomS d op a b).2.1, .bool (atomS d op a b).2.2]) ∧ CoreAt cp hb ho vm 34 w' (atomS d op a b).1 ∧ Cgo cp hb ho vm 34 w w' := by
  have hl := Lib.hid (load_any vm d.m 13 a w h.bytes ha wf.m.getD)
  have hlu := Lib.hid (mLoad_u d.m 13 a (by omega) ha wf.m.getD)
  have hne := h.hbl
  have H := Lib.hid h
  have HA := Lib.hid ha
  have HB := Lib.hid hb'
  obtain ⟨o0, o1⟩ := hop
  clear ha hb'
  cases hok : mLoadOk d.m 13 a with
  | false =>
    have hT := Lib.hid (trap_any h wf.h 4)
    rw [hok] at hl
    by_cases h46 : op = 46
    · subst h46
      have e : atomS d 46 a b = (d.trap 3, 0, false) := by unfold atomS; rw [hok]; rfl
      rw [e]
      clear e
      have hp := h.ptr
      have hm := h.mem
      clear h
      go_enter Try.func131, Try.ntmps131
      go_wp2_with fail
      refine hl.out.mono ?_
      rintro e w' ⟨rfl, rfl⟩
      clear hp hm
      go_wp2_with fail
      refine hT.out.mono ?_
      rintro e w1 ⟨rfl, hc1, hg1⟩
      have hT2 := Lib.hid (trap_any hc1 (wf.trap 4 (by omega)).h 3)
      have HG := Lib.hid hg1
      clear hc1 hg1 hT hl
      go_wp2_with fail
      refine hT2.out.mono ?_
      rintro e w2 ⟨rfl, hc2, hg2⟩
      go_wp2_with fail
      go_ret2
      exact ⟨rfl, hc2, HG.out.trans hg2⟩
    · have e : atomS d op a b = (d.trap 4, 0, false) := by unfold atomS; rw [hok, if_neg (by decide), if_neg h46]
      rw [e]
      clear e
      have hp := h.ptr
      have hm := h.mem
      clear h
      go_enter Try.func131, Try.ntmps131
      go_wp2_with fail
      refine hl.out.mono ?_
      rintro e w' ⟨rfl, rfl⟩
      clear hp hm
      go_wp2_with fail
      refine hT.out.mono ?_
      rintro e w1 ⟨rfl, hc1, hg1⟩
      go_wp2_with fail
      go_ret2
      exact ⟨rfl, hc1, hg1⟩
  | true =>
    rw [hok] at hl
    obtain ⟨old, hold⟩ : ∃ x, x = mLoad d.m 13 a := ⟨_, rfl⟩
    rw [← hold] at hl hlu
    have h33 := h.hart.get (hlist_held wf.h)
    have h34 := h.hart.get (hlist_heldAt wf.h)
    have f33 := h.hfz (ho + 33)
    have f34 := h.hfz (ho + 34)
    have hp := h.ptr
    have hm := h.mem
    by_cases h46 : op = 46
    · subst h46
      have e : atomS d 46 a b = (d.hold true a, old, true) := by unfold atomS; rw [hok, ← hold]; rfl
      rw [e]
      clear e h hold
      go_enter Try.func131, Try.ntmps131
      go_upto_region 1 with (fail)
      go_wp2_with (go_at_call 101; refine hl.out.mono ?_; rintro e w' ⟨rfl, rfl⟩)
      go_region
      all_goals go_wp2_with fail
      all_goals go_ret2
      all_goals exact ⟨rfl, ((H.out.setHart 33 _ _ (hlist_setHeld wf.h.len true) (by rw [hlist_length wf.h]; omega)).setHart 34 _ _ (hlist_setHeldAt (h := { d.h with held := true }) wf.h.len a) (by have := hlist_length wf.h; unfold hlist at *; simp at *; omega)).below (Below.drew (Below.refl _ _)), ((Cgo.setHart _ 33 (by omega) _).trans (Cgo.setHart _ 34 (by omega) _)).drew⟩
    · by_cases h47 : op = 47
      · subst h47
        by_cases hq : (d.h.held && d.h.heldAt == a) = true
        · have e : atomS d 47 a b = ((d.put 18 a b).hold false 0, 0, true) := by unfold atomS; rw [hok, if_pos rfl, if_neg (by omega), if_pos rfl, if_pos hq]
          rw [e]
          clear e hold
          rw [Bool.and_eq_true, beq_iff_eq] at hq
          obtain ⟨q1, q2⟩ := hq
          rw [q1] at h33
          rw [q2] at h34
          have HPut := Lib.hid (cput_any h wf 18 a b HA.out HB.out)
          clear h f33 f34
          go_enter Try.func131, Try.ntmps131
          go_upto_region 1 with (fail)
          go_wp2_with (go_at_call 101; refine hl.out.mono ?_; rintro e w' ⟨rfl, rfl⟩)
          refine HPut.out.mono ?_
          rintro e w1 ⟨rfl, hc1, hg1⟩
          have hl2 : hlist (d.put 18 a b).h = hlist d.h := by rw [CoreD.put_h]
          have wf2 : (d.put 18 a b).h.Wf := by rw [CoreD.put_h]; exact wf.h
          clear h33 h34 hp hm
          have hp := hc1.ptr
          have h33 := hc1.hart.get (hlist_held wf2)
          have h34 := hc1.hart.get (hlist_heldAt wf2)
          have f33 := hc1.hfz (ho + 33)
          have f34 := hc1.hfz (ho + 34)
          have H1 := Lib.hid hc1
          have G1 := Lib.hid hg1
          clear hc1 hg1 HPut hl
          go_wp2_with fail
          go_region
          all_goals go_wp2_with fail
          all_goals go_ret2
          all_goals exact ⟨rfl, ((H1.out.setHart 33 _ _ (hlist_setHeld wf2.len false) (by rw [hlist_length wf2]; omega)).setHart 34 _ _ (hlist_setHeldAt (h := { (d.put 18 a b).h with held := false }) wf2.len 0) (by have := hlist_length wf2; unfold hlist at *; simp at *; omega)).below (Below.drew (Below.refl _ _)), ((G1.out.trans (Cgo.setHart _ 33 (by omega) _)).trans (Cgo.setHart _ 34 (by omega) _)).drew⟩
        · have e : atomS d 47 a b = (d.hold false 0, 1, true) := by unfold atomS; rw [hok, if_pos rfl, if_neg (by omega), if_pos rfl, if_neg hq]
          rw [e]
          clear e h hold
          rw [Bool.and_eq_true, beq_iff_eq] at hq
          cases hh : d.h.held with
          | false =>
            rw [hh] at h33
            clear hq
            go_enter Try.func131, Try.ntmps131
            go_upto_region 1 with (fail)
            go_wp2_with (go_at_call 101; refine hl.out.mono ?_; rintro e w' ⟨rfl, rfl⟩)
            go_region
            all_goals go_wp2_with fail
            all_goals go_ret2
            all_goals exact ⟨rfl, ((H.out.setHart 33 _ _ (hlist_setHeld wf.h.len false) (by rw [hlist_length wf.h]; omega)).setHart 34 _ _ (hlist_setHeldAt (h := { d.h with held := false }) wf.h.len 0) (by have := hlist_length wf.h; unfold hlist at *; simp at *; omega)).below (Below.drew (Below.refl _ _)), ((Cgo.setHart _ 33 (by omega) _).trans (Cgo.setHart _ 34 (by omega) _)).drew⟩
          | true =>
            have hq2 : ¬ d.h.heldAt = a := fun e => hq ⟨hh, e⟩
            rw [hh] at h33
            clear hq
            go_enter Try.func131, Try.ntmps131
            go_upto_region 1 with (fail)
            go_wp2_with (go_at_call 101; refine hl.out.mono ?_; rintro e w' ⟨rfl, rfl⟩)
            go_region
            all_goals go_wp2_with fail
            all_goals go_ret2
            all_goals exact ⟨rfl, ((H.out.setHart 33 _ _ (hlist_setHeld wf.h.len false) (by rw [hlist_length wf.h]; omega)).setHart 34 _ _ (hlist_setHeldAt (h := { d.h with held := false }) wf.h.len 0) (by have := hlist_length wf.h; unfold hlist at *; simp at *; omega)).below (Below.drew (Below.refl _ _)), ((Cgo.setHart _ 33 (by omega) _).trans (Cgo.setHart _ 34 (by omega) _)).drew⟩
      · have e : atomS d op a b = (d.put 18 a (amo op old b), old, true) := by unfold atomS; rw [hok, if_pos rfl, if_neg h46, if_neg h47, ← hold]
        rw [e]
        have HAm := Lib.hid (amo_any op old b w hlu.out.1 hlu.out.2 HB.out.1 HB.out.2)
        have HPut := Lib.hid (cput_any h wf 18 a (amo op old b) HA.out (amo_lo op old b hlu.out HB.out))
        clear e h hold
        go_enter Try.func131, Try.ntmps131
        go_upto_region 1 with (fail)
        go_wp2_with (go_at_call 101; refine hl.out.mono ?_; rintro e w' ⟨rfl, rfl⟩)
        refine HAm.out.mono ?_
        rintro e w' ⟨rfl, rfl⟩
        go_wp2_with fail
        refine HPut.out.mono ?_
        rintro e w1 ⟨rfl, hc1, hg1⟩
        clear hp hm h33 h34 f33 f34
        go_wp2_with fail
        go_ret2
        exact ⟨rfl, hc1, hg1⟩
end
end Go.Proofs.Ytlfnddmncbkjaab.W
