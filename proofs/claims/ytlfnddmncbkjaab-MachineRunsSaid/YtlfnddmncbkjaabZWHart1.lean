/- hart.Core's small methods, walked. -/
import Derived.Test.YtlfnddmncbkjaabZMA
import Derived.Test.YtlfnddmncbkjaabZWMem
import Derived.Test.YtlfnddmncbkjaabZWWord
namespace Go.Proofs.Ytlfnddmncbkjaab.W
set_option linter.unusedVariables false
set_option linter.unusedSimpArgs false
open Go.RowKit Fb
section
variable {cp hb ho : Nat} {vm : Value} {d : CoreD} {w : World}
theorem set_any (h : CoreAt cp hb ho vm 34 w d) (wf : d.h.Wf) (k : Nat) (hk : k < 32) (x : Int) :
    Calls Try.prog 128 #[.pointer (some ⟨cp, 0, none⟩), .int .i64 k, .int .u32 x] w fun e w' => e = .returned (.tuple #[]) ∧ CoreAt cp hb ho vm 34 w' (d.set k x) ∧ Cgo cp hb ho vm 34 w w' := by
  have hp := h.ptr
  have hc := h.hart.get (hlist_reg wf k hk)
  have hf := h.hfz (ho + k)
  have H := Lib.hid h
  clear h
  go_enter Try.func128, Try.ntmps128
  by_cases hk0 : k = 0
  · subst hk0
    go_wp2_with fail
    go_end0
    refine ⟨rfl, ?_, Cgo.refl _⟩
    have e : d.set ((0 : Nat) : Int) x = d := by simp [CoreD.set, Hart.setReg]
    rw [e]
    exact H.out
  · have hk1 : (0 : Int) < k := by omega
    go_wp2_with fail
    go_end0
    refine ⟨rfl, ?_, Cgo.setHart _ k (by omega) _⟩
    have e : d.set (k : Int) x = { d with h := { d.h with regs := d.h.regs.set k x } } := by simp [CoreD.set, Hart.setReg]; omega
    rw [e]
    exact H.out.setHart k _ _ (hlist_setReg wf.len k hk x) (by rw [hlist_length wf]; omega)
theorem trap_any (h : CoreAt cp hb ho vm 34 w d) (wf : d.h.Wf) (c : Int) :
    Calls Try.prog 116 #[.pointer (some ⟨cp, 0, none⟩), .int .i64 c] w fun e w' => e = .returned (.tuple #[]) ∧ CoreAt cp hb ho vm 34 w' (d.trap c) ∧ Cgo cp hb ho vm 34 w w' := by
  have hp := h.ptr
  have h35 := h.hart.get (hlist_state wf)
  have h36 := h.hart.get (hlist_cause wf)
  have f35 := h.hfz (ho + 35)
  have f36 := h.hfz (ho + 36)
  have hne := h.hbl
  have H := Lib.hid h
  clear h
  go_enter Try.func116, Try.ntmps116
  go_wp2_with fail
  go_region
  all_goals go_wp2_with fail
  all_goals go_end0
  all_goals exact ⟨rfl, ((H.out.setHart 35 _ _ (hlist_setState wf.len 2) (by rw [hlist_length wf]; omega)).setHart 36 _ _ (hlist_setCause (h := { d.h with state := 2 }) wf.len c) (by have := hlist_length wf; unfold hlist at *; simp at *; omega)).below (Below.drew (Below.refl _ _)), ((Cgo.setHart _ 35 (by omega) _).trans (Cgo.setHart _ 36 (by omega) _)).drew⟩
set_option maxRecDepth 100000 in
set_option maxHeartbeats 400000 in
theorem cput_any (h : CoreAt cp hb ho vm 34 w d) (wf : d.Wf) (op at_ x : Int) (ha : U32 at_) (hx : U32 x) :
    Calls Try.prog 129 #[.pointer (some ⟨cp, 0, none⟩), .int .i64 op, .int .u32 at_, .int .u32 x] w fun e w' => e = .returned (.bool (mStoreOk d.m op at_)) ∧ CoreAt cp hb ho vm 34 w' (d.put op at_ x) ∧ Cgo cp hb ho vm 34 w w' := by
  have hp := h.ptr
  have hm := h.mem
  have hfr := h.fr
  have htw := h.tw
  have f3 := h.frz 3
  have f4 := h.frz 4
  have hne := h.hbl
  have H := Lib.hid h
  have HA := Lib.hid ha
  have HX := Lib.hid hx
  obtain ⟨ao, cap, rfl, hc1, hc2, _, hopen⟩ := h.bytes.open
  clear h ha hx
  cases hok : mStoreOk d.m op at_ with
  | false =>
    have e : d.put op at_ x = d := by unfold CoreD.put; rw [hok]; rfl
    rw [e]
    have hc := put_no ao d.m.length cap op at_ x w (by omega) HA.out hok
    go_enter Try.func129, Try.ntmps129
    go_wp2_with fail
    refine hc.mono ?_
    rintro e w' ⟨rfl, rfl⟩
    go_wp2_with fail
    go_ret
    exact ⟨rfl, H.out, Cgo.refl _⟩
  | true =>
    have hpos := storeOk_pos HA.out hok
    obtain ⟨b, off, rfl, hbl, hcell⟩ := hopen (by intro e; rw [e] at hpos; simp at hpos)
    obtain ⟨m1, m2, m3, m4⟩ := H.out.mfz b off _ _ rfl
    obtain ⟨k, rfl⟩ := Int.eq_ofNat_of_zero_le HA.out.1
    have hc := put_yes b off cap d.m op k x w (by omega) HA.out HX.out hok (fun i hi => ⟨_, hcell i hi⟩) (fun i _ => m4 _)
    have hk : k + (msize op).toNat ≤ d.m.length := by
      simp [mStoreOk, there] at hok
      have := HA.out.1
      omega
    have H2 := Lib.hid (H.out.putW k x (msize op).toNat hk hpos)
    have C2 : Hid (Cgo cp hb ho (.slice (some ⟨b, off, none⟩) d.m.length cap) 34 w (putW w b off k x (msize op).toNat)) := Lib.hid (Cgo.putW w rfl m2 k x _)
    have HP : Hid (d.put op k x = { d with m := lay d.m k x (msize op).toNat, fr := (k : Int), tw := ((k : Int) + msize op) % 4294967296 }) := Lib.hid (by
      unfold CoreD.put; rw [if_pos hok]; congr 1; unfold mStore; rw [if_pos hok])
    have hop : op = 16 ∨ op = 17 ∨ op = 18 := by simp [mStoreOk, stores] at hok; omega
    clear hcell hopen m1 m2 m3 m4 hp hm hfr htw f3 f4
    generalize putW w b off k x (msize op).toNat = w2 at *
    have hp := H2.out.ptr
    have hm := H2.out.mem
    have hfr := H2.out.fr
    have htw := H2.out.tw
    have f3 := H2.out.frz 3
    have f4 := H2.out.frz 4
    have hp0 := H.out.ptr
    have hm0 := H.out.mem
    have hku := HA.out.2
    have ix0 : ∀ W, (Instr.index 201 (.agg #[.int .u32 1, .int .u32 2, .int .u32 4]) (.int .i64 0)).run Try.prog W = .ok (.int .u32 1) W := fun _ => by kernel_rfl
    have ix1 : ∀ W, (Instr.index 201 (.agg #[.int .u32 1, .int .u32 2, .int .u32 4]) (.int .i64 1)).run Try.prog W = .ok (.int .u32 2) W := fun _ => by kernel_rfl
    have ix2 : ∀ W, (Instr.index 201 (.agg #[.int .u32 1, .int .u32 2, .int .u32 4]) (.int .i64 2)).run Try.prog W = .ok (.int .u32 4) W := fun _ => by kernel_rfl
    rcases hop with rfl | rfl | rfl
    all_goals
      go_enter Try.func129, Try.ntmps129
      go_upto_region 1 with (fail)
      clear hp hm hfr htw f3 f4
      go_wp2_with fail
      refine hc.mono ?_
      rintro e w' ⟨rfl, rfl⟩
      clear hp0 hm0
      have hp := H2.out.ptr
      have hfr := H2.out.fr
      have htw := H2.out.tw
      have f3 := H2.out.frz 3
      have f4 := H2.out.frz 4
      go_wp2_with fail
      go_ret
      refine ⟨rfl, ?_, (C2.out.trans (Cgo.setCore _ hne _ _)).trans (Cgo.setCore _ hne _ _)⟩
      rw [HP.out]
      exact (H2.out.setFr _).setTo _
set_option maxRecDepth 100000 in
set_option maxHeartbeats 400000 in
theorem call_any (h : CoreAt cp hb ho vm 34 w d) (wf : d.Wf) (hlen : d.out.length < 1099511627776) :
    Calls Try.prog 125 #[.pointer (some ⟨cp, 0, none⟩)] w fun e w' => e = .returned (.bool (callS d).2) ∧ CoreAt cp hb ho vm 34 w' (callS d).1 ∧ Cgo cp hb ho vm 34 w w' := by
  have hp := h.ptr
  have h17 := h.hart.get (hlist_reg wf.h 17 (by omega))
  have h10 := h.hart.get (hlist_reg wf.h 10 (by omega))
  have h35 := h.hart.get (hlist_state wf.h)
  have f35 := h.hfz (ho + 35)
  have f2 := h.frz 2
  have hne := h.hbl
  have hlt := h.lt
  have H := Lib.hid h
  have hT := Lib.hid (trap_any h wf.h 5)
  have hC : callS d = if d.h.regs.getD 17 0 = 0 then ({ d with h := { d.h with state := 1 } }, false) else if d.h.regs.getD 17 0 = 1 then ({ d with out := d.out ++ [d.h.regs.getD 10 0] }, true) else (d.trap 5, false) := rfl
  rw [hC]
  clear hC h
  generalize d.h.regs.getD 17 0 = x17 at *
  generalize d.h.regs.getD 10 0 = x10 at *
  by_cases h0 : x17 = 0
  · rw [if_pos h0]
    subst h0
    go_enter Try.func125, Try.ntmps125
    go_wp2_with fail
    go_ret
    exact ⟨rfl, H.out.setHart 35 _ _ (hlist_setState wf.h.len 1) (by rw [hlist_length wf.h]; omega), Cgo.setHart _ 35 (by omega) _⟩
  · rw [if_neg h0]
    by_cases h1 : x17 = 1
    · rw [if_pos h1]
      subst h1
      obtain ⟨v, hv1, hv3⟩ := H.out.row
      have hfar : Hid (some cp ≠ v.ownBlock) := Lib.hid (fun e => by have := (hv3.lt cp e.symm).1; omega)
      have hlo : ∀ k, v.ownBlock = some k → cp + 1 ≤ k := fun k e => (hv3.lt k e).1
      have HLO := Lib.hid hlo
      have H3 := Lib.hid hv3
      have HV := Lib.hid (And.intro hv1 f2)
      obtain ⟨i0, hi, hz0, hz1, hz2⟩ := info_parts (show (Try.prog.info? 34).map (fun i => (i.zero, i.size, i.bytes)) = some (some (.int .u32 0), 1, 4) by kernel_rfl)
      clear hv3 hlo
      go_enter Try.func125, Try.ntmps125
      go_wp2_with fail
      go_region_law (
        refine step_append_lies _ (by rfl) _ _ _ (by rfl) (cp + 1) 34 i0 _ 1 4 Try.underlying61 hi hz0 hz1 hz2 rfl (by omega) v d.out.length _ (by rfl) ((H3.out.alloc _).drew)
            ⟨w.heap.size, 0, none⟩ 1 1 [.int .u32 x10] (by rfl) (by rfl) (World.news_of_block (cs := #[.int .u32 x10]) (t := 34) (fr := (0, 0)) (heap_alloc_new w _)) (by simp [Value.oneCell'])
            (by omega) (by unfold maxLen; omega) (by omega) (by simp; omega) (w.heap.size + 1) (by simp) ?_
        intro gg cap w1 hown1 hgrow hat hgl
        have hc1 : w1.cell? ⟨cp, 2, none⟩ = some v := (hgrow.cell_far _ (by simp; omega) hfar.out).trans (by simp [World.cell?_alloc_some, HV.out.1])
        have hc0 : w1.cell? ⟨cp, 0, none⟩ = some (.pointer (some ⟨hb, ho, none⟩)) := (hgrow.cell_far _ (by simp; omega) hfar.out).trans (by simp [World.cell?_alloc_some, hp])
        have hf1 : w1.frozen? ⟨cp, 2, none⟩ = false := (hgrow.frozen_far _ (by simp; omega) hfar.out).trans ((frozen_da (p := ⟨cp, 2, none⟩) _ hlt).trans HV.out.2))
      all_goals
        go_wp2
        go_ret
        refine ⟨rfl, H.out.append (((Below.alloc (Below.refl _ _) (by omega) _).drew).grown hgrow (by simp; omega) HLO.out) (by simpa using hown1), ?_⟩
        exact (((Cgo.of_below (Below.alloc (Below.refl _ _) (Nat.le_refl _) _) (by omega)).drew).trans (Cgo.grown hne ((H3.out.alloc _).drew) hgrow (by simp; omega))).trans (Cgo.setCore _ hne _ _)
    · rw [if_neg h1]
      go_enter Try.func125, Try.ntmps125
      go_wp2_with fail
      refine hT.out.mono ?_
      rintro e w1 ⟨rfl, hc, hg⟩
      go_wp2_with fail
      go_ret
      exact ⟨rfl, hc, hg⟩
end
end Go.Proofs.Ytlfnddmncbkjaab.W
