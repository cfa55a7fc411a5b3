/- HartZero: for every hart that may be, and every memory: behind a step it may be, register 0 is 0, and a trap leaves all but State and Cause, and the memory, as they were. No condition. -/
import Derived.Test.YtlfnddmncbkjaabZWStep
import Derived.Test.YtlfnddmncbkjaabZMB
import Derived.Test.YtlfnddmncbkjaabZWSame
import Derived.Test.YtlfnddmncbkjaabZMA
namespace Go.Proofs.Ytlfnddmncbkjaab.HartZeroLaw
set_option linter.unusedVariables false
set_option linter.unusedSimpArgs false
open Go.RowKit Fb W
set_option maxRecDepth 100000 in
set_option maxHeartbeats 1600000 in
theorem walk (h : Hart) (wf : h.Wf) (v : Value) (l : List Int) (w : World) (hv : Ints .u8 w v l) (hb : Bytes l) (hl : l.length ≤ 140737488351232) :
    Calls Try.prog 12 #[.agg (hcells h), v] w fun e w' => e = .returned (.bool true) ∧ Below w.heap.size w w' := by
  have hbox := box_hart h w 57
  have HV := Lib.hid hv
  have HM4 := Lib.hid (fun W => may4_any h wf W)
  have hsz : (Try.prog.info? 57).map (·.size) = some (hcells h).size := by rw [hcells_size wf]; kernel_rfl
  have HST := Lib.hid (fun W hW => step_any h wf v l W hW hb hl)
  obtain ⟨ao, cap, rfl, _⟩ := hv.open
  clear hv
  have hg : Try.prog.eqGuardType Try.prog.depth 57 = false := by kernel_rfl
  have hox : Hid (h.ok = true → True) := Lib.hid (fun _ => trivial)
  have wfx : (stepD h l).h.Wf := by
    unfold stepD
    split
    · exact (goS_wf (d := ⟨h, l, [], 0, 0⟩) ⟨wf, hb, by simp, (⟨by decide, by decide⟩ : U32 0), (⟨by decide, by decide⟩ : U32 0), hl, by simp⟩ (by simp)).h
    · exact ⟨rfl, by intro x hx; have := List.eq_of_mem_replicate hx; subst this; exact ⟨by decide, by decide⟩, ⟨by decide, by decide⟩, ⟨by decide, by decide⟩, ⟨by decide, by decide⟩, ⟨by decide, by decide⟩⟩
  have bm : Bytes (stepD h l).m := by
    unfold stepD
    split
    · exact (goS_wf (d := ⟨h, l, [], 0, 0⟩) ⟨wf, hb, by simp, (⟨by decide, by decide⟩ : U32 0), (⟨by decide, by decide⟩ : U32 0), hl, by simp⟩ (by simp)).m
    · intro x hx; cases hx
  have HF := Lib.hid (stepD_fin h l)
  have HN : Hid (stepOk h l = false → stepD h l = ⟨hart0, [], [], 0, 0⟩) := Lib.hid (fun e => by unfold stepD; rw [if_neg (by rw [e]; decide)])
  have hcs : (stepOk h l = false ∧ (h.ok = false ∨ (h.ok = true ∧ ¬ h.state = 0) ∨ (h.ok = true ∧ h.state = 0 ∧ (4096 : Int) < l.length))) ∨ (stepOk h l = true) := by
    cases hq : stepOk h l with
    | true => exact .inr rfl
    | false =>
      refine .inl ⟨rfl, ?_⟩
      unfold stepOk at hq
      cases hk : h.ok with
      | false => exact .inl rfl
      | true =>
        by_cases h0 : h.state = 0
        · by_cases h1 : l.length ≤ 4096
          · rw [hk, h0] at hq; simp [h1] at hq
          · exact .inr (.inr ⟨rfl, h0, by omega⟩)
        · exact .inr (.inl ⟨rfl, h0⟩)
  generalize stepOk h l = ok at *
  obtain ⟨dd, hdd⟩ : ∃ d, d = stepD h l := ⟨_, rfl⟩
  rw [← hdd] at HST HF HN wfx bm
  clear hdd
  obtain ⟨w1, hw1⟩ : ∃ w1, w1 = w.alloc (.cells (hcells h) 57) := ⟨_, rfl⟩
  rw [← hw1] at hbox
  have hb1 : Below w.heap.size w w1 := by rw [hw1]; exact (by repeat (first | with_reducible exact Below.refl _ _ | with_reducible refine below_drewN ?_ _ | ((with_reducible refine Below.setCell ?_ ?hq _); case hq => (first | (simp; done) | (simp; omega))) | ((with_reducible refine Below.alloc ?_ ?hq _); case hq => (first | (simp; done) | (simp; omega)))))
  have hs1 : w1.heap.size = w.heap.size + 1 := by rw [hw1]; simp
  have HW1 := Lib.hid hw1
  clear hw1
  have hszx : (Try.prog.info? 57).map (·.size) = some (hcells dd.h).size := by rw [hcells_size wfx]; kernel_rfl
  go_enter Try.func12, Try.ntmps12
  go_upto_region 1 with (fail)
  rw [← HW1.out]
  go_wp2_with (first | (refine wpList_load_at rfl 57 _ rfl w.heap.size 0 rfl (hcells h) _ hbox Try.underlying57 rfl hsz ?_))
  refine (HST.out _ (HV.out.below hb1)).mono ?_
  rintro e w2 ⟨⟨vm, vo, rfl, hvm, hvo⟩, hb2⟩
  have hbx2 : At w2 w.heap.size 0 (hlist h) := hbox.below hb2
  have hb3 := hb1.trans (hb2.mono (by omega))
  have hs2 := hb2.size
  obtain ⟨aom, capm, rfl, _⟩ := hvm.open
  obtain ⟨aoo, capo, rfl, _⟩ := hvo.open
  have HVM := Lib.hid hvm
  have HVO := Lib.hid hvo
  clear hvm hvo hbox hb1 hb2 HST
  obtain ⟨w3, hw3⟩ : ∃ w3, w3 = w2.alloc (.cells (hcells dd.h) 57) := ⟨_, rfl⟩
  have hxa : At w3 w2.heap.size 0 (hlist dd.h) := by rw [hw3]; exact box_hart dd.h w2 57
  have h23 : Below w2.heap.size w2 w3 := by rw [hw3]; exact (by repeat (first | with_reducible exact Below.refl _ _ | with_reducible refine below_drewN ?_ _ | ((with_reducible refine Below.setCell ?_ ?hq _); case hq => (first | (simp; done) | (simp; omega))) | ((with_reducible refine Below.alloc ?_ ?hq _); case hq => (first | (simp; done) | (simp; omega)))))
  have hbx3 : At w3 w.heap.size 0 (hlist h) := hbx2.below h23
  have HX3 : Hid (w3.heap[w2.heap.size]? = some (.cells (hcells dd.h) 57 (0, 0))) := Lib.hid (by rw [hw3]; exact heap_alloc_new _ _)
  have hs3 : w3.heap.size = w2.heap.size + 1 := by rw [hw3]; simp
  have hb4 := hb3.trans (h23.mono (by omega))
  have HW3 := Lib.hid hw3
  clear hw3 hbx2 hb3
  go_upto_region 2 with (first | (refine wpList_store_new rfl 57 _ _ rfl w2 _ (hcells dd.h) rfl rfl rfl hszx (by rw [hcells_size wfx]; rfl) (hlist_one _) ?_))
  rw [← HW3.out]
  have hb5' : w.heap.size < w3.heap.size := by omega
  have hb6' : w2.heap.size < w3.heap.size := by omega
  rcases hcs with ⟨rfl, hc⟩ | rfl
  · have e0 := HN.out rfl
    subst e0
    clear HF HN
    have h35 := hbx3.get (hlist_state wf)
    rcases hc with hok | ⟨hok, hst⟩ | ⟨hok, hst, hlen⟩
    all_goals
      rw [hok] at HM4
      (try rw [hst] at h35)
      go_wp2_with (first | (refine wpList_load_at rfl 57 _ rfl w2.heap.size 0 rfl (hcells hart0) _ hxa Try.underlying57 rfl hszx ?_) | (refine wpList_load_g (by rfl) 57 _ rfl w.heap.size 0 rfl (hcells h) _ hbx3 Try.underlying57 rfl hsz ?_) | (refine wpList_eql rfl 57 _ _ _ rfl (hcells hart0) (hcells hart0) rfl (by rfl) hg _ (hart_eql hart0 wfx) ?_))
      refine (HM4.out _).mono ?_
      rintro e w4 ⟨rfl, hb5⟩
      have g35 := (hb5.cell (p := ⟨w.heap.size, 0 + 35, none⟩) hb5').trans h35
      have hb6 := hb4.trans (hb5.mono (by omega))
      clear h35 hb5
      go_wp2_with fail
      go_ret
      exact ⟨rfl, hb6⟩
  · obtain ⟨f1, f2, f3, f4, f5⟩ := HF.out rfl
    have HMx := Lib.hid (fun W => may_any dd.h wfx W)
    rw [f1] at HMx
    have f2' : (dd.m.length : Int) = l.length := by rw [f2]
    have F5 := Lib.hid f5
    clear f1 f5 HF HN
    have h0 := hxa.get (hlist_reg wfx 0 (by omega))
    rw [f3] at h0
    have h35 := hxa.get (hlist_state wfx)
    go_wp2_with (first | (refine wpList_load_at rfl 57 _ rfl w2.heap.size 0 rfl (hcells dd.h) _ hxa Try.underlying57 rfl hszx ?_))
    refine (HMx.out _).mono ?_
    rintro e w4 ⟨rfl, hb5⟩
    have g0 := (hb5.cell (p := ⟨w2.heap.size, 0 + 0, none⟩) hb6').trans h0
    have g35 := (hb5.cell (p := ⟨w2.heap.size, 0 + 35, none⟩) hb6').trans h35
    have hb6 := hb4.trans (hb5.mono (by omega))
    have hx4 : At w4 w2.heap.size 0 (hlist dd.h) := hxa.below hb5
    have hh4 : At w4 w.heap.size 0 (hlist h) := hbx3.below hb5
    have hs4 := hb5.size
    have HVM4 := Lib.hid ((HVM.out.below h23).below hb5)
    have HVO4 := Lib.hid ((HVO.out.below h23).below hb5)
    have hm4 : (dd.out.length : Int) ≤ 1 := by omega
    clear h0 h35 hb5 hxa hbx3
    by_cases hst : dd.h.state = 0
    · rw [hst] at g35
      go_wp2_with fail
      go_ret
      exact ⟨rfl, hb6⟩
    · obtain ⟨e1, e2, e3⟩ := F5.out hst
      have hst2 : Hid (¬ dd.h.state = 0) := Lib.hid hst
      obtain ⟨w5, hw5⟩ : ∃ w5, w5 = w4.alloc (.cells (hcells dd.h) 57) := ⟨_, rfl⟩
      have hy5 : At w5 w4.heap.size 0 (hlist dd.h) := by rw [hw5]; exact box_hart dd.h w4 57
      have h45 : Below w4.heap.size w4 w5 := by rw [hw5]; exact (by repeat (first | with_reducible exact Below.refl _ _ | with_reducible refine below_drewN ?_ _ | ((with_reducible refine Below.setCell ?_ ?hq _); case hq => (first | (simp; done) | (simp; omega))) | ((with_reducible refine Below.alloc ?_ ?hq _); case hq => (first | (simp; done) | (simp; omega)))))
      have hh5 : At w5 w.heap.size 0 (hlist h) := hh4.below h45
      have hy35 := hy5.get (hlist_state wfx)
      have hy36 := hy5.get (hlist_cause wfx)
      have hh35 := hh5.get (hlist_state wf)
      have hh36 := hh5.get (hlist_cause wf)
      have HY5 : Hid (∀ o, w5.frozen? ⟨w4.heap.size, o, none⟩ = false) := Lib.hid (fun o => by rw [hw5]; unfold World.frozen?; rw [heap_alloc_new]; simp)
      have f35 := HY5.out (0 + 35)
      have f36 := HY5.out (0 + 36)
      have hy6 : At ((w5.setCell ⟨w4.heap.size, 0 + 35, none⟩ (.int .i64 h.state)).setCell ⟨w4.heap.size, 0 + 36, none⟩ (.int .i64 h.cause)) w4.heap.size 0 (hlist h) := by
        have k1 := (hy5.set 35 (by rw [hlist_length wfx]; omega) (.int .i64 h.state)).set 36 (by simp [hlist_length wfx]) (.int .i64 h.cause)
        rw [← hlist_setState wfx.len, ← hlist_setCause (h := { dd.h with state := h.state }) wfx.len, e1] at k1
        exact k1
      have hh6 : At ((w5.setCell ⟨w4.heap.size, 0 + 35, none⟩ (.int .i64 h.state)).setCell ⟨w4.heap.size, 0 + 36, none⟩ (.int .i64 h.cause)) w.heap.size 0 (hlist h) := (hh5.set_other (by show w4.heap.size ≠ w.heap.size; omega) _).set_other (by show w4.heap.size ≠ w.heap.size; omega) _
      have hb7 : Below w.heap.size w ((w5.setCell ⟨w4.heap.size, 0 + 35, none⟩ (.int .i64 h.state)).setCell ⟨w4.heap.size, 0 + 36, none⟩ (.int .i64 h.cause)) := ((hb6.trans (h45.mono (by omega))).setCell (by show _ ≤ w4.heap.size; omega) _).setCell (by show _ ≤ w4.heap.size; omega) _
      have hvm6 : Ints .u8 ((w5.setCell ⟨w4.heap.size, 0 + 35, none⟩ (.int .i64 h.state)).setCell ⟨w4.heap.size, 0 + 36, none⟩ (.int .i64 h.cause)) (.slice aom dd.m.length capm) dd.m :=
        HVM4.out.below (by exact ((Below.trans (Below.refl _ _) h45).setCell (Nat.le_refl _) _).setCell (Nat.le_refl _) _)
      have hv6 : Ints .u8 ((w5.setCell ⟨w4.heap.size, 0 + 35, none⟩ (.int .i64 h.state)).setCell ⟨w4.heap.size, 0 + 36, none⟩ (.int .i64 h.cause)) (.slice ao l.length cap) l := HV.out.below hb7
      have HB4 := Lib.hid (bytes4_any _ _ dd.m l _ hvm6 hv6 bm hb)
      have HD : Hid (decide (dd.m = l) = true ∧ (dd.out.length : Int) = 0) := Lib.hid ⟨decide_eq_true e2, by rw [e3]; rfl⟩
      rw [HD.out.1, f2] at HB4
      have HY6 := Lib.hid hy6
      have HH6 := Lib.hid hh6
      have HB7 := Lib.hid hb7
      have HW5 := Lib.hid hw5
      have hol := HD.out.2
      clear hw5 hy6 hh6 hb7 hvm6 hv6 e1 e2 e3
      go_upto_region 9 with (first | (refine wpList_load_at rfl 57 _ rfl w2.heap.size 0 rfl (hcells dd.h) _ hx4 Try.underlying57 rfl hszx ?_) | (refine wpList_store_new rfl 57 _ _ rfl w4 _ (hcells dd.h) rfl rfl rfl hszx (by rw [hcells_size wfx]; rfl) (hlist_one _) ?_))
      rw [← HW5.out]
      go_upto_region 11 with (fail)
      go_wp2_with (first | (refine wpList_load_at rfl 57 _ rfl w4.heap.size 0 rfl (hcells h) _ HY6.out Try.underlying57 rfl hsz ?_) | (refine wpList_load_at rfl 57 _ rfl w.heap.size 0 rfl (hcells h) _ HH6.out Try.underlying57 rfl hsz ?_) | (refine wpList_eql rfl 57 _ _ _ rfl (hcells h) (hcells h) rfl rfl hg _ (hart_eql h wf) ?_) | (go_at_call 42; refine HB4.out.mono ?_; rintro e w7 ⟨rfl, rfl⟩))
      go_ret
      exact ⟨rfl, HB7.out⟩
open RowB in
set_option maxRecDepth 100000 in
theorem lifted (os : Os) (started : os.Started) (H : Type) (enc : TypeId × Value → H) :
    ReturnsInHanded {} Try.checked os 12 .any (Rows.hartZeroSpec.pre6 enc Try.prog Try.f12 Rows.hartZeroRow.domain false) (Rows.hartZeroSpec.post enc Try.prog Try.f12 false true false false) := by
  refine RowB.law_lifted (C := Try.checked) (tb := 4) (by kernel_rfl) started (by kernel_rfl) (by kernel_rfl)
    (ChangeSpec.witness6 (enc := enc) (C := Try.checked) false ⟨#[], #[.agg (Array.replicate 32 (.int .u32 0) ++ #[.int .u32 0, .bool false, .int .u32 0, .int .i64 0, .int .i64 0]), .slice none 0 0], []⟩ 8 (by kernel_rfl) (by kernel_rfl) (by kernel_rfl) (by kernel_rfl))
    rfl (fun ds h => by match ds, h with | [_, _], _ => rfl) (by kernel_rfl) (by kernel_rfl) (by kernel_rfl) (of_decide_eq_true (by kernel_rfl)) ?_
  intro W base args ds ps hval hA _ hz
  have hp : (Try.f12).params.toList = [57, 22] := by kernel_rfl
  rw [hp] at hA hz
  obtain ⟨v0, vs0, d0, ds0, p0, q0, hargs, rfl, rfl, h0, r0⟩ := ChangeShapes.trodAll_cons hA
  obtain ⟨v1, vs1, d1, ds1, p1, q1, rfl, rfl, rfl, h1, r1⟩ := ChangeShapes.trodAll_cons r0
  obtain ⟨rfl, rfl, rfl⟩ := ChangeShapes.trodAll_nil r1
  obtain rfl : args = #[v0, v1] := by cases args; simp_all
  obtain ⟨z0, y0⟩ := weights_cons hz
  obtain ⟨z1, y1⟩ := weights_cons y0
  have k0 := hval 0 57 v0 (by kernel_rfl) rfl
  have k1 := hval 1 22 v1 (by kernel_rfl) rfl
  obtain ⟨h, rfl, wf⟩ := opens_hart.arg Try.underlying57 k0 h0 z0
  obtain ⟨l, hv, hb, hr⟩ := open_bytes Try.underlying22 Try.underlying5 (by kernel_rfl) (by kernel_rfl) k1 h1 z1
  exact walk h wf v1 l W hv hb (by omega)
/-- THE STATEMENT -/
theorem proved : Rows.HartZeroSaid :=
  OpenClaim.holds_of_wide 12 Try.f12 rfl rfl rfl rfl rfl rfl rfl ⟨rfl, rfl, rfl, rfl, rfl⟩ rfl rfl rfl rfl rfl (by kernel_rfl) Try.func12 (by kernel_rfl)
    (of_decide_eq_true (by kernel_rfl)) (by unfold Func.isWrapper; first | (rw [if_pos (by decide +kernel)]; kernel_rfl) | (rw [if_neg (by decide +kernel)]; exact ⟨rfl, rfl⟩))
    (fun os started H enc _ => lifted os started H enc)
#print axioms proved
end Go.Proofs.Ytlfnddmncbkjaab.HartZeroLaw
