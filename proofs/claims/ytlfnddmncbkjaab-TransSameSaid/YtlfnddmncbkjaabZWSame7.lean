import Derived.Test.YtlfnddmncbkjaabZFbRun7d
import Derived.Test.YtlfnddmncbkjaabZMA
import Derived.Test.YtlfnddmncbkjaabZWRef4Bytes
import Derived.Test.YtlfnddmncbkjaabZWSame
set_option linter.unusedVariables false
set_option linter.unusedSimpArgs false
set_option maxRecDepth 100000
set_option maxHeartbeats 4000000
namespace Go.Proofs.Ytlfnddmncbkjaab.Fb
open Go.RowKit
theorem wpList_neq {P : Program} {ops : Array Oper} {rest : List Oper} {o : Oper} {a : Act} {Q : Exit → Act → World → Prop} {w : World} (hgd : o.guard = none) (ty ty2 : TypeId) (x y : Operand) (ho : o.op = .binOp .neq ty x y ty2) (xs ys : Array Value) (hx : a.eval x = .agg xs) (hy : a.eval y = .agg ys)
    (hm : P.eqGuardType P.depth ty = false) (v : Value) (hr : ∀ w, (binOp .neq ty (.agg xs) (.agg ys)).run P w = .ok v w) (h : wpList P ops Q rest (a.put o.dst v) w) : wpList P ops Q (o :: rest) a w :=
  wpList_plain hgd fun K hK => by
    unfold Oper.wp execOp
    simp [ho, hx, hy, Sem.run_bind, run_eqGuard_agg w .neq ty x y xs ys hm, hr]
    exact hK _ _ h
theorem didl_get {d : RunD} {vm vo vs : Value} (h : d.h.regs.length = 32) (j : Nat) : (didl d vm vo vs)[37 + j]? = [vm, vo, Value.int .i64 d.steps, vs][j]? := by
  unfold didl
  rw [List.getElem?_append_right (by rw [hlist_len h]; omega), hlist_len h, Nat.add_sub_cancel_left]
end Go.Proofs.Ytlfnddmncbkjaab.Fb
namespace Go.Proofs.Ytlfnddmncbkjaab.W
open Go.RowKit Fb
theorem range_neq (a b : Int) (w : World) : (binOp .neq 60 (.agg #[.int .u32 a, .int .u32 b]) (.agg #[.int .u32 a, .int .u32 b])).run Try.prog w = .ok (.bool false) w := by
  rw [run_neq_struct]
  have h : (Op.equalIn 10000 60 (.agg #[.int .u32 a, .int .u32 b]) (.agg #[.int .u32 a, .int .u32 b])).run Try.prog w = .ok true w := by
    simp [go_sem]
  rw [h]; rfl
theorem same7_any (d : RunD) (vm vo vs vm' vo' vs' : Value) (w : World) (wf : d.h.Wf) (hmb : Bytes d.m) (hm : Ints .u8 w vm d.m) (hm' : Ints .u8 w vm' d.m) (ho : Ints .u32 w vo d.out) (ho' : Ints .u32 w vo' d.out) (hs : Sl w vs 2 d.stores.length (d.stores.flatMap rg)) (hs' : Sl w vs' 2 d.stores.length (d.stores.flatMap rg)) :
    Calls Try.prog 35 #[.agg (didl d vm vo vs).toArray, .agg (didl d vm' vo' vs').toArray] w fun e w' => e = .returned (.bool true) ∧ Below w.heap.size w w' := by
  obtain ⟨am, cm, rfl, -⟩ := hm.open
  obtain ⟨am', cm', rfl, -⟩ := hm'.open
  obtain ⟨ao, co, rfl, -⟩ := ho.open
  obtain ⟨ao', co', rfl, -⟩ := ho'.open
  obtain ⟨asx, cs, rfl, hcs, hcsm, -, hos⟩ := hs.open (fun _ _ => rfl) (by omega)
  obtain ⟨asy, cs', rfl, hcs', hcsm', -, hos'⟩ := hs'.open (fun _ _ => rfl) (by omega)
  unfold maxLen at hcsm hcsm'
  have hb0 : Below w.heap.size w ((w.alloc (.cells (didl d (.slice am d.m.length cm) (.slice ao d.out.length co) (.slice asx d.stores.length cs)).toArray 64)).alloc (.cells (didl d (.slice am' d.m.length cm') (.slice ao' d.out.length co') (.slice asy d.stores.length cs')).toArray 64)) := Fb.blw
  obtain ⟨w1, hw1⟩ : ∃ w1, w1 = (w.alloc (.cells (didl d (.slice am d.m.length cm) (.slice ao d.out.length co) (.slice asx d.stores.length cs)).toArray 64)).alloc (.cells (didl d (.slice am' d.m.length cm') (.slice ao' d.out.length co') (.slice asy d.stores.length cs')).toArray 64) := ⟨_, rfl⟩
  rw [← hw1] at hb0
  have hatx : At w1 w.heap.size 0 (didl d (.slice am d.m.length cm) (.slice ao d.out.length co) (.slice asx d.stores.length cs)) := by rw [hw1]; exact (at_alloc w _ _ _).below (Below.alloc (Below.refl _ _) (Nat.le_refl _) _)
  have haty : At w1 (w.heap.size + 1) 0 (didl d (.slice am' d.m.length cm') (.slice ao' d.out.length co') (.slice asy d.stores.length cs')) := by
    have := at_alloc (w.alloc (.cells (didl d (.slice am d.m.length cm) (.slice ao d.out.length co) (.slice asx d.stores.length cs)).toArray 64)) (didl d (.slice am' d.m.length cm') (.slice ao' d.out.length co') (.slice asy d.stores.length cs')) 64 (0, 0)
    rw [World.size_alloc] at this
    rw [hw1]; exact this
  have hhx : At w1 w.heap.size 0 (hlist d.h) := hatx.append_left
  have hhy : At w1 (w.heap.size + 1) 0 (hlist d.h) := haty.append_left
  have x37 := hatx.get ((didl_get wf.len 0).trans rfl)
  have x38 := hatx.get ((didl_get wf.len 1).trans rfl)
  have x39 := hatx.get ((didl_get wf.len 2).trans rfl)
  have x40 := hatx.get ((didl_get wf.len 3).trans rfl)
  have y37 := haty.get ((didl_get wf.len 0).trans rfl)
  have y38 := haty.get ((didl_get wf.len 1).trans rfl)
  have y39 := haty.get ((didl_get wf.len 2).trans rfl)
  have y40 := haty.get ((didl_get wf.len 3).trans rfl)
  simp only [Nat.zero_add, Nat.reduceAdd, Nat.add_zero] at x37 x38 x39 x40 y37 y38 y39 y40
  have HBY := Lib.hid (bytes4_any (.slice am d.m.length cm) (.slice am' d.m.length cm') d.m d.m w1 (hm.below hb0) (hm'.below hb0) hmb hmb)
  have HWD := Lib.hid (words4_same (.slice ao d.out.length co) (.slice ao' d.out.length co') d.out w1 (ho.below hb0) (ho'.below hb0))
  have hsz := hcells_size wf
  have hcsz : (Try.prog.info? 57).map (·.size) = some (hcells d.h).size := by rw [hsz]; kernel_rfl
  have HOX := Lib.hid hos
  have HOY := Lib.hid hos'
  have HB0 := Lib.hid hb0
  have HW1 := Lib.hid hw1
  clear hm hm' ho ho' hs hs' hos hos' hatx haty hw1 hb0
  go_enter Try.func35, Try.ntmps35
  go_upto_region 1 with (fail)
  rw [← HW1.out]
  have l1 : w.heap.size < w1.heap.size := lt_of_cell x37
  have l2 : w.heap.size + 1 < w1.heap.size := lt_of_cell y37
  have HXY := Lib.hid (And.intro x40 y40)
  rw [decide_eq_true (rfl : d.m = d.m)] at HBY
  go_upto_region 3 with (first | (refine wpList_load_at rfl 57 _ rfl w.heap.size 0 rfl (hcells d.h) _ hhx Try.underlying57 rfl hcsz ?_) | (refine wpList_load_at rfl 57 _ rfl (w.heap.size + 1) 0 rfl (hcells d.h) _ hhy Try.underlying57 rfl hcsz ?_) | (refine wpList_neq rfl 57 _ _ _ rfl (hcells d.h) (hcells d.h) rfl rfl (by kernel_rfl) _ (hart_neq d.h wf) ?_) | (go_at_call 42; refine HBY.out.mono ?_; rintro e w6 ⟨rfl, rfl⟩) | (go_at_call 43; refine HWD.out.mono ?_; rintro e w7 ⟨rfl, hb7⟩))
  obtain ⟨n, hn⟩ : ∃ n, n = d.stores.length := ⟨_, rfl⟩
  have HN := Lib.hid hn
  have hsm : (n : Int) ≤ 9223372036854775807 := by omega
  rw [← hn]
  rw [← hn] at HXY
  have z40 := (hb7.cell (p := ⟨w.heap.size, 40, none⟩) l1).trans HXY.out.1
  clear hhx hhy x37 x38 x39 x40 y37 y38 y39 y40 hn
  go_wp2_with fail
  clear z40
  go_loopw [5] (fun i wr => ∃ k : Nat, i = .int .i64 k ∧ k ≤ n ∧ Hid (Below w1.heap.size w1 wr)) (fun i _ => n - (intOf i).toNat)
  case atStart => exact ⟨0, rfl, by omega, Lib.hid hb7⟩
  case round =>
    obtain ⟨k, rfl, hk, HI⟩ := hrel
    have c40 := (HI.out.cell (p := ⟨w.heap.size, 40, none⟩) l1).trans HXY.out.1
    have d40 := (HI.out.cell (p := ⟨w.heap.size + 1, 40, none⟩) l2).trans HXY.out.2
    have hsr := HI.out.size
    by_cases hlt : k < n
    · have hlt' : k < d.stores.length := by rw [← HN.out]; exact hlt
      obtain ⟨b, off, rfl, hbl, hel⟩ := HOX.out (by intro e; rw [e] at hlt'; simp at hlt')
      obtain ⟨b', off', rfl, hbl', hel'⟩ := HOY.out (by intro e; rw [e] at hlt'; simp at hlt')
      obtain ⟨fr, tw, hft⟩ : ∃ fr tw, d.stores[k] = (fr, tw) := ⟨_, _, rfl⟩
      have HX : Hid (∀ W, Below wr.heap.size wr W → At W b (off + k * 2) [.int .u32 fr, .int .u32 tw]) := Lib.hid (fun W hW => by have := hel k hlt'; rw [hft] at this; exact At.of_lt this ((HB0.out.trans (HI.out.mono HB0.out.size)).trans (hW.mono (by have := HB0.out.size; omega))) hbl)
      have HY : Hid (∀ W, Below wr.heap.size wr W → At W b' (off' + k * 2) [.int .u32 fr, .int .u32 tw]) := Lib.hid (fun W hW => by have := hel' k hlt'; rw [hft] at this; exact At.of_lt this ((HB0.out.trans (HI.out.mono HB0.out.size)).trans (hW.mono (by have := HB0.out.size; omega))) hbl')
      have i0 : (0 : Int) ≤ (k : Int) := by omega
      have i1 : (k : Int) < (n : Int) := by omega
      have hlw : w.heap.size < wr.heap.size := by omega
      have hlw1 : w.heap.size + 1 < wr.heap.size := by omega
      clear hel hel' hft hlt'
      go_upto_region 6 with (fail)
      refine region_quiet_lit (fun W => Below wr.heap.size wr W) (by kernel_rfl) (by kernel_rfl) (Below.drew (Below.refl _ _)) ?_
      go_big_quiet_step ((intro _; rfl))
      refine wpQuiet_cell_g (by rfl) 62 _ rfl ⟨w.heap.size, 40, none⟩ rfl (.slice (some ⟨b, off, none⟩) n cs) (fun W hW => by have hc := (hW.cell (p := ⟨w.heap.size, 40, none⟩) hlw).trans c40; go_simp) ?_
      simp only [Act.put, List.setIfInBounds_toArray, List.set_cons_zero, List.set_cons_succ]
      iterate 2 go_big_quiet_step ((intro _; rfl))
      refine wpQuiet_load_g (by rfl) 60 _ rfl b (off + k * 2) rfl #[.int .u32 fr, .int .u32 tw] _ (fun W hW => HX.out W hW) Try.underlying60 rfl (by show _ = some 2; kernel_rfl) ?_
      simp only [Act.put, List.setIfInBounds_toArray, List.set_cons_zero, List.set_cons_succ]
      go_big_quiet_step ((intro _; rfl))
      refine wpQuiet_cell_g (by rfl) 62 _ rfl ⟨w.heap.size + 1, 40, none⟩ rfl (.slice (some ⟨b', off', none⟩) n cs') (fun W hW => by have hc := (hW.cell (p := ⟨w.heap.size + 1, 40, none⟩) hlw1).trans d40; go_simp) ?_
      simp only [Act.put, List.setIfInBounds_toArray, List.set_cons_zero, List.set_cons_succ]
      iterate 2 go_big_quiet_step ((intro _; rfl))
      refine wpQuiet_load_g (by rfl) 60 _ rfl b' (off' + k * 2) rfl #[.int .u32 fr, .int .u32 tw] _ (fun W hW => HY.out W hW) Try.underlying60 rfl (by show _ = some 2; kernel_rfl) ?_
      simp only [Act.put, List.setIfInBounds_toArray, List.set_cons_zero, List.set_cons_succ]
      refine wpQuiet_neq rfl 60 _ _ _ rfl #[.int .u32 fr, .int .u32 tw] #[.int .u32 fr, .int .u32 tw] rfl rfl (by kernel_rfl) _ (range_neq fr tw) ?_
      refine wpQuiet_nil ?_
      intro w9 hb9
      go_wp2_with fail
      go_roundw
      case rel => exact ⟨k + 1, by simp, by omega, Lib.hid (HI.out.trans (hb9.mono hsr))⟩
      case measure => simp [intOf]; omega
    · have i1 : ¬ (k : Int) < (n : Int) := by omega
      go_wp2_with fail
      go_ret
      exact ⟨rfl, HB0.out.trans (HI.out.mono HB0.out.size)⟩
end Go.Proofs.Ytlfnddmncbkjaab.W
