/- HartSteps: for every hart, such as may not be among them, and every memory, the program does a step, or tells that none can be done. No condition. -/
import Derived.Test.YtlfnddmncbkjaabZWStep
import Derived.Test.YtlfnddmncbkjaabZWStep4
import Derived.Test.YtlfnddmncbkjaabZMB
import Derived.Test.YtlfnddmncbkjaabZWSame
import Derived.Test.YtlfnddmncbkjaabZMA
namespace Go.Proofs.Ytlfnddmncbkjaab.HartStepsLaw
set_option linter.unusedVariables false
set_option linter.unusedSimpArgs false
open Go.RowKit Fb W
theorem hcells_hart0 : hcells hart0 = Array.replicate 32 (.int .u32 0) ++ #[.int .u32 0, .bool false, .int .u32 0, .int .i64 0, .int .i64 0] := by rfl
set_option maxRecDepth 100000 in
set_option maxHeartbeats 1600000 in
theorem walk (h : Hart) (wf : h.Wf) (v : Value) (l : List Int) (w : World) (hv : Ints .u8 w v l) (hb : Bytes l) (hl : l.length ≤ 140737488351232) :
    Calls Try.prog 11 #[.agg (hcells h), v] w fun e w' => e = .returned (.bool true) ∧ Below w.heap.size w w' := by
  have hbox := box_hart h w 57
  have HV := Lib.hid hv
  have HM := Lib.hid (fun W => may_any h wf W)
  have HM4 := Lib.hid (fun W => may4_any h wf W)
  have hsz : (Try.prog.info? 57).map (·.size) = some (hcells h).size := by rw [hcells_size wf]; kernel_rfl
  have HST := Lib.hid (fun W hW => step_any h wf v l W hW hb hl)
  have HS4 : Hid (stepOk h l = true → ∀ W, Ints .u8 W v l → _) := Lib.hid (fun hq W hW => step4_any h wf v l W hW hb (by unfold stepOk at hq; simp only [Bool.and_eq_true, decide_eq_true_eq] at hq; exact hq.2))
  obtain ⟨ao, cap, rfl, _⟩ := hv.open
  clear hv
  have hg : Try.prog.eqGuardType Try.prog.depth 57 = false := by kernel_rfl
  have wfc : (goS (⟨h, l, [], 0, 0⟩ : CoreD)).Wf := goS_wf (d := ⟨h, l, [], 0, 0⟩) ⟨wf, hb, by simp, (⟨by decide, by decide⟩ : U32 0), (⟨by decide, by decide⟩ : U32 0), hl, by simp⟩ (by simp)
  have HD1 : Hid (stepOk h l = true → stepD h l = goS (⟨h, l, [], 0, 0⟩ : CoreD)) := Lib.hid (fun e => by unfold stepD; rw [if_pos e])
  have HN : Hid (stepOk h l = false → stepD h l = ⟨hart0, [], [], 0, 0⟩) := Lib.hid (fun e => by unfold stepD; rw [if_neg (by rw [e]; decide)])
  have wf0 : hart0.Wf := ⟨rfl, by intro x hx; have := List.eq_of_mem_replicate hx; subst this; exact ⟨by decide, by decide⟩, ⟨by decide, by decide⟩, ⟨by decide, by decide⟩, ⟨by decide, by decide⟩, ⟨by decide, by decide⟩⟩
  have wfx : (stepD h l).h.Wf := by
    unfold stepD
    split
    · exact wfc.h
    · exact wf0
  have bm : Bytes (stepD h l).m := by
    unfold stepD
    split
    · exact wfc.m
    · intro x hx; cases hx
  have hcs : (stepOk h l = false ∧ (h.ok = false ∨ (h.ok = true ∧ ¬ h.state = 0) ∨ (h.ok = true ∧ h.state = 0 ∧ (4096 : Int) < l.length))) ∨ (stepOk h l = true ∧ h.ok = true ∧ h.state = 0 ∧ l.length ≤ 4096) := by
    cases hq : stepOk h l with
    | true =>
      unfold stepOk at hq
      simp only [Bool.and_eq_true, beq_iff_eq, decide_eq_true_eq] at hq
      exact .inr ⟨rfl, hq.1.1, hq.1.2, hq.2⟩
    | false =>
      refine .inl ⟨rfl, ?_⟩
      unfold stepOk at hq
      cases hk : h.ok with
      | false => exact .inl rfl
      | true =>
        by_cases h0 : h.state = 0
        · by_cases h1 : l.length ≤ 4096
          · rw [hk, h0] at hq; simp [h1] at hq
          · exact .inr (.inr ⟨rfl, h0, by omega⟩)
        · exact .inr (.inl ⟨rfl, h0⟩)
  generalize stepOk h l = ok at *
  obtain ⟨dd, hdd⟩ : ∃ d, d = stepD h l := ⟨_, rfl⟩
  rw [← hdd] at HST HD1 HN wfx bm
  clear hdd
  obtain ⟨w1, hw1⟩ : ∃ w1, w1 = w.alloc (.cells (hcells h) 57) := ⟨_, rfl⟩
  rw [← hw1] at hbox
  have hb1 : Below w.heap.size w w1 := by rw [hw1]; exact (by repeat (first | with_reducible exact Below.refl _ _ | with_reducible refine below_drewN ?_ _ | ((with_reducible refine Below.setCell ?_ ?hq _); case hq => (first | (simp; done) | (simp; omega))) | ((with_reducible refine Below.alloc ?_ ?hq _); case hq => (first | (simp; done) | (simp; omega)))))
  have hs1 : w1.heap.size = w.heap.size + 1 := by rw [hw1]; simp
  have HW1 := Lib.hid hw1
  clear hw1
  have hszx : (Try.prog.info? 57).map (·.size) = some (hcells dd.h).size := by rw [hcells_size wfx]; kernel_rfl
  obtain ⟨bo, hbo⟩ : ∃ b, b = h.ok := ⟨_, rfl⟩
  rw [← hbo] at HM HM4 hcs
  clear hbo
  rcases hcs with ⟨rfl, hc⟩ | ⟨rfl, hok, hst, hle⟩
  · have e0 := HN.out rfl
    subst e0
    clear HN HD1 HS4
    rcases hc with hok | ⟨hok, hst⟩ | ⟨hok, hst, hlen⟩
    all_goals
      subst hok
      go_enter Try.func11, Try.ntmps11
      go_upto_region 1 with (fail)
      rw [← HW1.out]
      go_wp2_with (first | (refine wpList_load_at rfl 57 _ rfl w.heap.size 0 rfl (hcells h) _ hbox Try.underlying57 rfl hsz ?_))
      refine (HM.out _).mono ?_
      rintro e wa ⟨rfl, hba⟩
      have hboxa : At wa w.heap.size 0 (hlist h) := hbox.below hba
      have hb1a := hb1.trans (hba.mono (by omega))
      have hsa := hba.size
      clear hba hbox hb1
      go_wp2_with (first | (refine wpList_load_at rfl 57 _ rfl w.heap.size 0 rfl (hcells h) _ hboxa Try.underlying57 rfl hsz ?_))
      refine (HM4.out _).mono ?_
      rintro e wb ⟨rfl, hbb⟩
      have hboxb : At wb w.heap.size 0 (hlist h) := hboxa.below hbb
      have hb1b := hb1a.trans (hbb.mono (by omega))
      have hsb := hbb.size
      clear hbb hboxa hb1a
      go_wp2_with (first | (refine wpList_load_at rfl 57 _ rfl w.heap.size 0 rfl (hcells h) _ hboxb Try.underlying57 rfl hsz ?_))
      refine (HST.out _ (HV.out.below hb1b)).mono ?_
      rintro e w2 ⟨⟨vm, vo, rfl, hvm, hvo⟩, hb2⟩
      have hbx2 : At w2 w.heap.size 0 (hlist h) := hboxb.below hb2
      have hb3 := hb1b.trans (hb2.mono (by omega))
      have hs2 := hb2.size
      obtain ⟨aom, capm, rfl, _⟩ := hvm.open
      obtain ⟨aoo, capo, rfl, _⟩ := hvo.open
      clear hvm hvo hboxb hb1b hb2 HST
      obtain ⟨w3, hw3⟩ : ∃ w3, w3 = w2.alloc (.cells (hcells hart0) 57) := ⟨_, rfl⟩
      have hxa : At w3 w2.heap.size 0 (hlist hart0) := by rw [hw3]; exact box_hart hart0 w2 57
      have h23 : Below w2.heap.size w2 w3 := by rw [hw3]; exact (by repeat (first | with_reducible exact Below.refl _ _ | with_reducible refine below_drewN ?_ _ | ((with_reducible refine Below.setCell ?_ ?hq _); case hq => (first | (simp; done) | (simp; omega))) | ((with_reducible refine Below.alloc ?_ ?hq _); case hq => (first | (simp; done) | (simp; omega)))))
      have hbx3 : At w3 w.heap.size 0 (hlist h) := hbx2.below h23
      have hb4 := hb3.trans (h23.mono (by omega))
      have HW3 := Lib.hid hw3
      clear hw3 hbx2 hb3
      have h35 := hbx3.get (hlist_state wf)
      (try rw [hst] at h35)
      go_upto_region 5 with (first | (refine wpList_store_new rfl 57 _ _ rfl w2 _ (hcells hart0) rfl rfl rfl hszx (by rw [hcells_size wfx]; rfl) (hlist_one _) ?_))
      rw [← HW3.out]
      go_wp2_with (first | (refine wpList_load_g (by rfl) 57 _ rfl w2.heap.size 0 rfl (hcells hart0) _ hxa Try.underlying57 rfl hszx ?_) | (refine wpList_eql_g (by rfl) 57 _ _ _ rfl (hcells hart0) (hcells hart0) rfl (by rfl) hg _ (hart_eql hart0 wfx) ?_))
      go_ret
      exact ⟨rfl, hb4⟩
  · have e0 := HD1.out rfl
    subst e0 hok
    have HS := Lib.hid (HS4.out rfl)
    clear HN HD1 HS4
    go_enter Try.func11, Try.ntmps11
    go_upto_region 1 with (fail)
    rw [← HW1.out]
    go_wp2_with (first | (refine wpList_load_at rfl 57 _ rfl w.heap.size 0 rfl (hcells h) _ hbox Try.underlying57 rfl hsz ?_))
    refine (HM.out _).mono ?_
    rintro e wa ⟨rfl, hba⟩
    have hboxa : At wa w.heap.size 0 (hlist h) := hbox.below hba
    have hb1a := hb1.trans (hba.mono (by omega))
    have hsa := hba.size
    clear hba hbox hb1
    go_wp2_with (first | (refine wpList_load_at rfl 57 _ rfl w.heap.size 0 rfl (hcells h) _ hboxa Try.underlying57 rfl hsz ?_))
    refine (HM4.out _).mono ?_
    rintro e wb ⟨rfl, hbb⟩
    have hboxb : At wb w.heap.size 0 (hlist h) := hboxa.below hbb
    have hb1b := hb1a.trans (hbb.mono (by omega))
    have hsb := hbb.size
    clear hbb hboxa hb1a
    go_wp2_with (first | (refine wpList_load_at rfl 57 _ rfl w.heap.size 0 rfl (hcells h) _ hboxb Try.underlying57 rfl hsz ?_))
    refine (HST.out _ (HV.out.below hb1b)).mono ?_
    rintro e w2 ⟨⟨vm, vo, rfl, hvm, hvo⟩, hb2⟩
    have hbx2 : At w2 w.heap.size 0 (hlist h) := hboxb.below hb2
    have hb3 := hb1b.trans (hb2.mono (by omega))
    have hs2 := hb2.size
    obtain ⟨aom, capm, rfl, _⟩ := hvm.open
    obtain ⟨aoo, capo, rfl, _⟩ := hvo.open
    obtain ⟨dd, hdd⟩ : ∃ d, d = goS (⟨h, l, [], 0, 0⟩ : CoreD) := ⟨_, rfl⟩
    rw [← hdd] at HS wfc wfx bm hszx hvm hvo ⊢
    clear hdd
    obtain ⟨w3, hw3⟩ : ∃ w3, w3 = w2.alloc (.cells (hcells dd.h) 57) := ⟨_, rfl⟩
    have hxa : At w3 w2.heap.size 0 (hlist dd.h) := by rw [hw3]; exact box_hart dd.h w2 57
    have h23 : Below w2.heap.size w2 w3 := by rw [hw3]; exact (by repeat (first | with_reducible exact Below.refl _ _ | with_reducible refine below_drewN ?_ _ | ((with_reducible refine Below.setCell ?_ ?hq _); case hq => (first | (simp; done) | (simp; omega))) | ((with_reducible refine Below.alloc ?_ ?hq _); case hq => (first | (simp; done) | (simp; omega)))))
    have hs3 : w3.heap.size = w2.heap.size + 1 := by rw [hw3]; simp
    have hbx3 : At w3 w.heap.size 0 (hlist h) := hbx2.below h23
    have hb4 := hb3.trans (h23.mono (by omega))
    have HVM := Lib.hid (hvm.below h23)
    have HVO := Lib.hid (hvo.below h23)
    have HW3 := Lib.hid hw3
    clear hw3 hbx2 hb3 hvm hvo hboxb hb1b hb2 HST
    have h35 := hbx3.get (hlist_state wf)
    rw [hst] at h35
    go_upto_region 5 with (first | (refine wpList_store_new rfl 57 _ _ rfl w2 _ (hcells dd.h) rfl rfl rfl hszx (by rw [hcells_size wfx]; rfl) (hlist_one _) ?_))
    rw [← HW3.out]
    go_wp2_with (first | (refine wpList_load_at rfl 57 _ rfl w.heap.size 0 rfl (hcells h) _ hbx3 Try.underlying57 rfl hsz ?_))
    refine (HS.out _ (HV.out.below hb4)).mono ?_
    rintro e w4 ⟨d', rfl, hdo, _, _, hb5⟩
    have d_ok : d'.Ok := hdo.ok wfc
    have hs4 := hb5.size
    obtain ⟨w5, hw5⟩ : ∃ w5, w5 = w4.alloc (.cells (dcells d') 76) := ⟨_, rfl⟩
    have h45 : Below w4.heap.size w4 w5 := by rw [hw5]; exact (by repeat (first | with_reducible exact Below.refl _ _ | with_reducible refine below_drewN ?_ _ | ((with_reducible refine Below.setCell ?_ ?hq _); case hq => (first | (simp; done) | (simp; omega))) | ((with_reducible refine Below.alloc ?_ ?hq _); case hq => (first | (simp; done) | (simp; omega)))))
    have hda : At w5 w4.heap.size 0 (dlist d') := by rw [hw5]; exact box_did d' w4 76
    have hb35 : Below w3.heap.size w3 w5 := hb5.trans (h45.mono hs4)
    have hb6 := hb4.trans (hb35.mono (by omega))
    have hxb : At w5 w2.heap.size 0 (hlist dd.h) := hxa.below hb35
    have hhd : d'.h = dd.h := hdo.h
    have hs5 := h45.size
    have hdh : At w5 w4.heap.size 0 (hlist dd.h) := by
      have hda' := hda
      unfold dlist at hda'
      rw [hhd] at hda'
      exact hda'.append_left
    have k37 := hda.get (dlist_t d_ok.len 0)
    have k38 := hda.get (dlist_t d_ok.len 1)
    have HM5 := Lib.hid (hdo.m.below h45)
    have HO5 := Lib.hid (hdo.o.below h45)
    have HB4 := Lib.hid (bytes4_any _ _ dd.m dd.m _ (HVM.out.below hb35) HM5.out bm bm)
    have HW4 := Lib.hid (words4_same _ _ dd.out _ (HVO.out.below hb35) HO5.out)
    rw [decide_eq_true (rfl : dd.m = dd.m)] at HB4
    have HW5 := Lib.hid hw5
    clear hw5 hda hb5 hdo hxa hbx3 h35 hb4
    go_upto_region 8 with (first | (refine wpList_store_new rfl 76 _ _ rfl w4 _ (dcells d') rfl rfl rfl (did_size d_ok) (by rw [dcells_size d_ok]; rfl) (dlist_one d_ok) ?_))
    rw [← HW5.out]
    go_wp2_with (first | (refine wpList_load_g (by rfl) 57 _ rfl w2.heap.size 0 rfl (hcells dd.h) _ hxb Try.underlying57 rfl hszx ?_) | (refine wpList_load_g (by rfl) 57 _ rfl w4.heap.size 0 rfl (hcells dd.h) _ hdh Try.underlying57 rfl hszx ?_) | (refine wpList_eql_g (by rfl) 57 _ _ _ rfl (hcells dd.h) (hcells dd.h) rfl (by rfl) hg _ (hart_eql dd.h wfx) ?_) | (go_at_call 42; refine HB4.out.mono ?_; rintro e w6 ⟨rfl, rfl⟩) | (go_at_call 43; refine HW4.out.mono ?_; rintro e w7 ⟨rfl, hb7⟩))
    go_ret
    exact ⟨rfl, hb6.trans (hb7.mono (by omega))⟩
open RowB in
set_option maxRecDepth 100000 in
theorem lifted (os : Os) (started : os.Started) (H : Type) (enc : TypeId × Value → H) :
    ReturnsInHanded {} Try.checked os 11 .any (Rows.hartStepsSpec.pre6 enc Try.prog Try.f11 Rows.hartStepsRow.domain false) (Rows.hartStepsSpec.post enc Try.prog Try.f11 false true false false) := by
  refine RowB.law_lifted (C := Try.checked) (tb := 4) (by kernel_rfl) started (by kernel_rfl) (by kernel_rfl)
    (ChangeSpec.witness6 (enc := enc) (C := Try.checked) false ⟨#[], #[.agg (Array.replicate 32 (.int .u32 0) ++ #[.int .u32 0, .bool false, .int .u32 0, .int .i64 0, .int .i64 0]), .slice none 0 0], []⟩ 8 (by kernel_rfl) (by kernel_rfl) (by kernel_rfl) (by kernel_rfl))
    rfl (fun ds h => by match ds, h with | [_, _], _ => rfl) (by kernel_rfl) (by kernel_rfl) (by kernel_rfl) (of_decide_eq_true (by kernel_rfl)) ?_
  intro W base args ds ps hval hA _ hz
  have hp : (Try.f11).params.toList = [57, 22] := by kernel_rfl
  rw [hp] at hA hz
  obtain ⟨v0, vs0, d0, ds0, p0, q0, hargs, rfl, rfl, h0, r0⟩ := ChangeShapes.trodAll_cons hA
  obtain ⟨v1, vs1, d1, ds1, p1, q1, rfl, rfl, rfl, h1, r1⟩ := ChangeShapes.trodAll_cons r0
  obtain ⟨rfl, rfl, rfl⟩ := ChangeShapes.trodAll_nil r1
  obtain rfl : args = #[v0, v1] := by cases args; simp_all
  obtain ⟨z0, y0⟩ := weights_cons hz
  obtain ⟨z1, y1⟩ := weights_cons y0
  have k0 := hval 0 57 v0 (by kernel_rfl) rfl
  have k1 := hval 1 22 v1 (by kernel_rfl) rfl
  obtain ⟨h, rfl, wf⟩ := opens_hart.arg Try.underlying57 k0 h0 z0
  obtain ⟨l, hv, hb, hr⟩ := open_bytes Try.underlying22 Try.underlying5 (by kernel_rfl) (by kernel_rfl) k1 h1 z1
  exact walk h wf v1 l W hv hb (by omega)
/-- THE STATEMENT -/
theorem proved : Rows.HartStepsSaid :=
  OpenClaim.holds_of_wide 11 Try.f11 rfl rfl rfl rfl rfl rfl rfl ⟨rfl, rfl, rfl, rfl, rfl⟩ rfl rfl rfl rfl rfl (by kernel_rfl) Try.func11 (by kernel_rfl)
    (of_decide_eq_true (by kernel_rfl)) (by unfold Func.isWrapper; first | (rw [if_pos (by decide +kernel)]; kernel_rfl) | (rw [if_neg (by decide +kernel)]; exact ⟨rfl, rfl⟩))
    (fun os started H enc _ => lifted os started H enc)
#print axioms proved
end Go.Proofs.Ytlfnddmncbkjaab.HartStepsLaw
