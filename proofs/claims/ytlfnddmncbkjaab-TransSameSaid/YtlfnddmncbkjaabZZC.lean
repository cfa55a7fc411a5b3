import Derived.Test.YtlfnddmncbkjaabZZB
import Derived.Test.YtlfnddmncbkjaabZZA
import Derived.Test.YtlfnddmncbkjaabZMA
import Derived.Test.YtlfnddmncbkjaabZMB
set_option linter.unusedVariables false
set_option linter.unusedSimpArgs false
set_option maxRecDepth 100000
set_option maxHeartbeats 4000000
namespace Go.Proofs.Ytlfnddmncbkjaab.Fb
open Go.RowKit
def RunD.hold (d : RunD) (b : Bool) (x : Int) : RunD := { d with h := d.h.hold b x }
def RunD.mem (d : RunD) (op a x : Int) : RunD := { d with m := mStore d.m op a x }
def RunD.atom (d : RunD) (op : Int) (kd ka kb : Nat) : RunD :=
  if mLoadOk d.m 13 (d.get ka) = true then
    if op = 46 then (d.hold true (d.get ka)).put kd (mLoad d.m 13 (d.get ka))
    else if op = 47 then (if (d.h.held && d.h.heldAt == d.get ka) = true then (((d.hold false 0).mem 18 (d.get ka) (d.get kb)).stored (d.get ka) 4).put kd 0 else (d.hold false 0).put kd 1)
    else ((d.mem 18 (d.get ka) (amo op (mLoad d.m 13 (d.get ka)) (d.get kb))).stored (d.get ka) 4).put kd (mLoad d.m 13 (d.get ka))
  else d.trap (if op = 46 then 3 else 4)
theorem get_u32 {d : RunD} (wf : d.Wf) (k : Nat) : U32 (d.get k) := by
  have key : ∀ (l : List Int) (j : Nat), (∀ x ∈ l, U32 x) → U32 (l.getD j 0) := fun l j hl => by
    by_cases hj : j < l.length
    · rw [List.getD_eq_getElem?_getD, List.getElem?_eq_getElem hj]; exact hl _ (List.getElem_mem hj)
    · rw [List.getD_eq_getElem?_getD, List.getElem?_eq_none (by omega)]; exact u32_0
  unfold RunD.get; split
  · exact key _ _ wf.h.regs
  · exact key _ _ wf.temps
section
variable {rp : Nat} {TO TS : TypeId} {w : World} {d : RunD} {vm vo vs : Value}
theorem r7_hold (h : R7 rp TO TS w d vm vo vs) (b : Bool) (x : Int) (hx : U32 x) : R7 rp TO TS ((w.setCell ⟨rp, 33, none⟩ (.bool b)).setCell ⟨rp, 34, none⟩ (.int .u32 x)) (d.hold b x) vm vo vs ∧ G7 rp w vo vs ((w.setCell ⟨rp, 33, none⟩ (.bool b)).setCell ⟨rp, 34, none⟩ (.int .u32 x)) vo vs := by
  have h1 := r7_setCell (d' := { d with h := { d.h with held := b } }) h 33 (by omega) (.bool b) (r7_setHart h.wf.h.len (by omega) (hlist_setHeld h.wf.h.len b)) rfl rfl rfl { h.wf with h := { h.wf.h with } }
  exact ⟨r7_setCell (d' := d.hold b x) h1 34 (by omega) (.int .u32 x) (r7_setHart (d := { d with h := { d.h with held := b } }) h.wf.h.len (by omega) (hlist_setHeldAt (h := { d.h with held := b }) h.wf.h.len x)) rfl rfl rfl { h.wf with h := { h.wf.h with heldAt := hx } }, (G7.set 33 _).trans (G7.set 34 _)⟩
end
theorem loadOk_ne {l : List Int} {a : Int} (h : mLoadOk l 13 a = true) (ha : U32 a) : l ≠ [] := by
  intro e
  subst e
  unfold mLoadOk at h
  rw [Bool.and_eq_true] at h
  have h2 := h.2
  unfold there msize at h2
  have := ha.1
  simp at h2
  omega
theorem mStore_bytes {l : List Int} (hb : Bytes l) (op a x : Int) : Bytes (mStore l op a x) := fun y hy => by
  obtain ⟨i, hi, rfl⟩ := List.mem_iff_getElem.1 hy
  have := mStore_byte l op a x hb.getD i
  rw [List.getD_eq_getElem?_getD, List.getElem?_eq_getElem hi] at this
  exact this
end Go.Proofs.Ytlfnddmncbkjaab.Fb
namespace Go.Proofs.Ytlfnddmncbkjaab.W
open Go.RowKit Fb
section
variable {rp : Nat} {w : World} {d : RunD} {vm vo vs : Value}
theorem atom7_a (h : R7 rp 34 60 w d vm vo vs) (op mop mn : Int) (kd ka kb : Nat) (hkd : kd < 36) (hka : ka < 36) (hkb : kb < 36) (hsl : d.stores.length ≤ 100000) (hok : mLoadOk d.m 13 (d.get ka) = false) (hop : op = 46) :
    Calls Try.prog 113 #[.pointer (some ⟨rp, 0, none⟩), .int .i64 op, .agg #[.int .i64 mop, .int .i64 kd, .int .i64 ka, .int .i64 kb, .int .u32 mn]] w fun e w' => e = .returned (.tuple #[]) ∧ ∃ vm' vs', R7 rp 34 60 w' (d.atom op kd ka kb) vm' vo vs' ∧ G7 rp w vo vs w' vo vs' := by
  have hlt := h.lt
  obtain ⟨am, cm, rfl, -⟩ := h.mem.open
  obtain ⟨w1, hw1⟩ : ∃ w1, w1 = w.alloc (.cells #[.int .i64 mop, .int .i64 kd, .int .i64 ka, .int .i64 kb, .int .u32 mn] 133) := ⟨_, rfl⟩
  have hb1 : Below w.heap.size w w1 := by rw [hw1]; exact Fb.blw
  have hs1 : w1.heap.size = w.heap.size + 1 := by rw [hw1]; simp
  have c0 : (w1).cell? ⟨w.heap.size, 0, none⟩ = some (.int .i64 mop) := by rw [hw1]; go_cell
  have c1 : (w1).cell? ⟨w.heap.size, 1, none⟩ = some (.int .i64 kd) := by rw [hw1]; go_cell
  have c2 : (w1).cell? ⟨w.heap.size, 2, none⟩ = some (.int .i64 ka) := by rw [hw1]; go_cell
  have c3 : (w1).cell? ⟨w.heap.size, 3, none⟩ = some (.int .i64 kb) := by rw [hw1]; go_cell
  have c4 : (w1).cell? ⟨w.heap.size, 4, none⟩ = some (.int .u32 mn) := by rw [hw1]; go_cell
  have H1 := h.below hb1
  have HK : Hid (∀ w' vo' vs', G7 rp w1 vo vs w' vo' vs' → At w' w.heap.size 0 [.int .i64 mop, .int .i64 kd, .int .i64 ka, .int .i64 kb, .int .u32 mn]) := Lib.hid (fun w' vo' vs' hg => hg.keeps (at_cons c0 (at_cons c1 (at_cons c2 (at_cons c3 (at_cons c4 at_nil))))) (by omega) (fun e => by have := (h.out.lt _ e).2; omega) (fun e => by have := (h.sto.lt _ e).2; omega))
  have HG1 : Hid (G7 rp w vo vs w1 vo vs) := Lib.hid (G7.below hb1)
  have HGA := Lib.hid (get7_any H1 ka hka)
  have HGB := Lib.hid (get7_any H1 kb hkb)
  obtain ⟨a, ha⟩ : ∃ a, a = d.get ka := ⟨_, rfl⟩
  obtain ⟨b, hb⟩ : ∃ b, b = d.get kb := ⟨_, rfl⟩
  have hua : U32 a := by rw [ha]; exact get_u32 h.wf ka
  have hub : U32 b := by rw [hb]; exact get_u32 h.wf kb
  have HLD := Lib.hid (load3_any (.slice am d.m.length cm) d.m 13 a w1 H1.mem hua h.wf.m.getD)
  rw [← ha] at HGA hok
  rw [← hb] at HGB
  rw [hok] at HLD
  obtain ⟨x, hx⟩ : ∃ x, x = mLoad d.m 13 a := ⟨_, rfl⟩
  have hux : U32 x := by rw [hx]; exact mLoad_u13 d.m a hua h.wf.m.getD
  rw [← hx] at HLD
  have c37 := H1.at_.get ((r7_tail (vm := .slice am d.m.length cm) (vo := vo) (vs := vs) h.wf.h.len 0).trans (show (r7tail d (.slice am d.m.length cm) vo vs)[0]? = some (.slice am d.m.length cm) from rfl))
  simp only [Nat.zero_add, Nat.reduceAdd] at c37
  have hres : d.atom op kd ka kb = d.trap 3 := by
    unfold RunD.atom
    rw [← ha, ← hb, hok, ← hx]
    rw [if_neg (by simp), if_pos hop]
  rw [hres]
  clear hres
  have HUA := Lib.hid hua
  have HUB := Lib.hid hub
  have HUX := Lib.hid hux
  have HX := Lib.hid hx
  have HOK := Lib.hid hok
  have HWF := Lib.hid h.wf
  have HH1 := Lib.hid H1
  have HW1 := Lib.hid hw1
  subst hop
  have HTR := Lib.hid (trap7_any H1 3 ⟨by omega, by omega⟩)
  clear h H1 hb1 hw1 ha hb hua hub hux hx hok
  go_enter Try.func113, Try.ntmps113
  go_upto_region 1 with (fail)
  rw [← HW1.out]
  go_wp2_with fail
  refine HGA.out.mono ?_
  rintro e w2 ⟨rfl, rfl⟩
  go_wp2_with fail
  refine HGB.out.mono ?_
  rintro e w3 ⟨rfl, rfl⟩
  go_wp2_with fail
  refine HLD.out.mono ?_
  rintro e w4 ⟨rfl, rfl⟩
  go_wp2_with fail
  refine HTR.out.mono ?_
  rintro e w5 ⟨rfl, h5, g5⟩
  go_wp2_with fail
  exact bodyPost_ret (results_none (by rfl) _ _ _) rfl ⟨rfl, _, _, h5, HG1.out.trans g5⟩
theorem atom7_b (h : R7 rp 34 60 w d vm vo vs) (op mop mn : Int) (kd ka kb : Nat) (hkd : kd < 36) (hka : ka < 36) (hkb : kb < 36) (hsl : d.stores.length ≤ 100000) (hok : mLoadOk d.m 13 (d.get ka) = false) (hop : ¬ op = 46) :
    Calls Try.prog 113 #[.pointer (some ⟨rp, 0, none⟩), .int .i64 op, .agg #[.int .i64 mop, .int .i64 kd, .int .i64 ka, .int .i64 kb, .int .u32 mn]] w fun e w' => e = .returned (.tuple #[]) ∧ ∃ vm' vs', R7 rp 34 60 w' (d.atom op kd ka kb) vm' vo vs' ∧ G7 rp w vo vs w' vo vs' := by
  have hlt := h.lt
  obtain ⟨am, cm, rfl, -⟩ := h.mem.open
  obtain ⟨w1, hw1⟩ : ∃ w1, w1 = w.alloc (.cells #[.int .i64 mop, .int .i64 kd, .int .i64 ka, .int .i64 kb, .int .u32 mn] 133) := ⟨_, rfl⟩
  have hb1 : Below w.heap.size w w1 := by rw [hw1]; exact Fb.blw
  have hs1 : w1.heap.size = w.heap.size + 1 := by rw [hw1]; simp
  have c0 : (w1).cell? ⟨w.heap.size, 0, none⟩ = some (.int .i64 mop) := by rw [hw1]; go_cell
  have c1 : (w1).cell? ⟨w.heap.size, 1, none⟩ = some (.int .i64 kd) := by rw [hw1]; go_cell
  have c2 : (w1).cell? ⟨w.heap.size, 2, none⟩ = some (.int .i64 ka) := by rw [hw1]; go_cell
  have c3 : (w1).cell? ⟨w.heap.size, 3, none⟩ = some (.int .i64 kb) := by rw [hw1]; go_cell
  have c4 : (w1).cell? ⟨w.heap.size, 4, none⟩ = some (.int .u32 mn) := by rw [hw1]; go_cell
  have H1 := h.below hb1
  have HK : Hid (∀ w' vo' vs', G7 rp w1 vo vs w' vo' vs' → At w' w.heap.size 0 [.int .i64 mop, .int .i64 kd, .int .i64 ka, .int .i64 kb, .int .u32 mn]) := Lib.hid (fun w' vo' vs' hg => hg.keeps (at_cons c0 (at_cons c1 (at_cons c2 (at_cons c3 (at_cons c4 at_nil))))) (by omega) (fun e => by have := (h.out.lt _ e).2; omega) (fun e => by have := (h.sto.lt _ e).2; omega))
  have HG1 : Hid (G7 rp w vo vs w1 vo vs) := Lib.hid (G7.below hb1)
  have HGA := Lib.hid (get7_any H1 ka hka)
  have HGB := Lib.hid (get7_any H1 kb hkb)
  obtain ⟨a, ha⟩ : ∃ a, a = d.get ka := ⟨_, rfl⟩
  obtain ⟨b, hb⟩ : ∃ b, b = d.get kb := ⟨_, rfl⟩
  have hua : U32 a := by rw [ha]; exact get_u32 h.wf ka
  have hub : U32 b := by rw [hb]; exact get_u32 h.wf kb
  have HLD := Lib.hid (load3_any (.slice am d.m.length cm) d.m 13 a w1 H1.mem hua h.wf.m.getD)
  rw [← ha] at HGA hok
  rw [← hb] at HGB
  rw [hok] at HLD
  obtain ⟨x, hx⟩ : ∃ x, x = mLoad d.m 13 a := ⟨_, rfl⟩
  have hux : U32 x := by rw [hx]; exact mLoad_u13 d.m a hua h.wf.m.getD
  rw [← hx] at HLD
  have c37 := H1.at_.get ((r7_tail (vm := .slice am d.m.length cm) (vo := vo) (vs := vs) h.wf.h.len 0).trans (show (r7tail d (.slice am d.m.length cm) vo vs)[0]? = some (.slice am d.m.length cm) from rfl))
  simp only [Nat.zero_add, Nat.reduceAdd] at c37
  have hres : d.atom op kd ka kb = d.trap 4 := by
    unfold RunD.atom
    rw [← ha, ← hb, hok, ← hx]
    rw [if_neg (by simp), if_neg hop]
  rw [hres]
  clear hres
  have HUA := Lib.hid hua
  have HUB := Lib.hid hub
  have HUX := Lib.hid hux
  have HX := Lib.hid hx
  have HOK := Lib.hid hok
  have HWF := Lib.hid h.wf
  have HH1 := Lib.hid H1
  have HW1 := Lib.hid hw1
  have p1 : (op == 46) = false := by simp; omega
  have p2 : decide (op = 46) = false := by simp; omega
  clear hop
  have HTR := Lib.hid (trap7_any H1 4 ⟨by omega, by omega⟩)
  clear h H1 hb1 hw1 ha hb hua hub hux hx hok
  go_enter Try.func113, Try.ntmps113
  go_upto_region 1 with (fail)
  rw [← HW1.out]
  go_wp2_with fail
  refine HGA.out.mono ?_
  rintro e w2 ⟨rfl, rfl⟩
  go_wp2_with fail
  refine HGB.out.mono ?_
  rintro e w3 ⟨rfl, rfl⟩
  go_wp2_with fail
  refine HLD.out.mono ?_
  rintro e w4 ⟨rfl, rfl⟩
  go_wp2_with fail
  refine HTR.out.mono ?_
  rintro e w5 ⟨rfl, h5, g5⟩
  go_wp2_with fail
  exact bodyPost_ret (results_none (by rfl) _ _ _) rfl ⟨rfl, _, _, h5, HG1.out.trans g5⟩
theorem atom7_c (h : R7 rp 34 60 w d vm vo vs) (op mop mn : Int) (kd ka kb : Nat) (hkd : kd < 36) (hka : ka < 36) (hkb : kb < 36) (hsl : d.stores.length ≤ 100000) (hok : mLoadOk d.m 13 (d.get ka) = true) (hop : op = 46) :
    Calls Try.prog 113 #[.pointer (some ⟨rp, 0, none⟩), .int .i64 op, .agg #[.int .i64 mop, .int .i64 kd, .int .i64 ka, .int .i64 kb, .int .u32 mn]] w fun e w' => e = .returned (.tuple #[]) ∧ ∃ vm' vs', R7 rp 34 60 w' (d.atom op kd ka kb) vm' vo vs' ∧ G7 rp w vo vs w' vo vs' := by
  have hlt := h.lt
  obtain ⟨am, cm, rfl, -⟩ := h.mem.open
  obtain ⟨w1, hw1⟩ : ∃ w1, w1 = w.alloc (.cells #[.int .i64 mop, .int .i64 kd, .int .i64 ka, .int .i64 kb, .int .u32 mn] 133) := ⟨_, rfl⟩
  have hb1 : Below w.heap.size w w1 := by rw [hw1]; exact Fb.blw
  have hs1 : w1.heap.size = w.heap.size + 1 := by rw [hw1]; simp
  have c0 : (w1).cell? ⟨w.heap.size, 0, none⟩ = some (.int .i64 mop) := by rw [hw1]; go_cell
  have c1 : (w1).cell? ⟨w.heap.size, 1, none⟩ = some (.int .i64 kd) := by rw [hw1]; go_cell
  have c2 : (w1).cell? ⟨w.heap.size, 2, none⟩ = some (.int .i64 ka) := by rw [hw1]; go_cell
  have c3 : (w1).cell? ⟨w.heap.size, 3, none⟩ = some (.int .i64 kb) := by rw [hw1]; go_cell
  have c4 : (w1).cell? ⟨w.heap.size, 4, none⟩ = some (.int .u32 mn) := by rw [hw1]; go_cell
  have H1 := h.below hb1
  have HK : Hid (∀ w' vo' vs', G7 rp w1 vo vs w' vo' vs' → At w' w.heap.size 0 [.int .i64 mop, .int .i64 kd, .int .i64 ka, .int .i64 kb, .int .u32 mn]) := Lib.hid (fun w' vo' vs' hg => hg.keeps (at_cons c0 (at_cons c1 (at_cons c2 (at_cons c3 (at_cons c4 at_nil))))) (by omega) (fun e => by have := (h.out.lt _ e).2; omega) (fun e => by have := (h.sto.lt _ e).2; omega))
  have HG1 : Hid (G7 rp w vo vs w1 vo vs) := Lib.hid (G7.below hb1)
  have HGA := Lib.hid (get7_any H1 ka hka)
  have HGB := Lib.hid (get7_any H1 kb hkb)
  obtain ⟨a, ha⟩ : ∃ a, a = d.get ka := ⟨_, rfl⟩
  obtain ⟨b, hb⟩ : ∃ b, b = d.get kb := ⟨_, rfl⟩
  have hua : U32 a := by rw [ha]; exact get_u32 h.wf ka
  have hub : U32 b := by rw [hb]; exact get_u32 h.wf kb
  have HLD := Lib.hid (load3_any (.slice am d.m.length cm) d.m 13 a w1 H1.mem hua h.wf.m.getD)
  rw [← ha] at HGA hok
  rw [← hb] at HGB
  rw [hok] at HLD
  obtain ⟨x, hx⟩ : ∃ x, x = mLoad d.m 13 a := ⟨_, rfl⟩
  have hux : U32 x := by rw [hx]; exact mLoad_u13 d.m a hua h.wf.m.getD
  rw [← hx] at HLD
  have c37 := H1.at_.get ((r7_tail (vm := .slice am d.m.length cm) (vo := vo) (vs := vs) h.wf.h.len 0).trans (show (r7tail d (.slice am d.m.length cm) vo vs)[0]? = some (.slice am d.m.length cm) from rfl))
  simp only [Nat.zero_add, Nat.reduceAdd] at c37
  have hres : d.atom op kd ka kb = (d.hold true a).put kd x := by
    unfold RunD.atom
    rw [← ha, ← hb, hok, ← hx]
    rw [if_pos rfl, if_pos hop]
  rw [hres]
  clear hres
  have c33 := H1.at_.get ((r7_hart h.wf.h.len (by omega)).trans (hlist_held h.wf.h))
  have c34 := H1.at_.get ((r7_hart h.wf.h.len (by omega)).trans (hlist_heldAt h.wf.h))
  have f33 := H1.frz 33
  have f34 := H1.frz 34
  simp only [Nat.zero_add, Nat.reduceAdd] at c33 c34
  have HUA := Lib.hid hua
  have HUB := Lib.hid hub
  have HUX := Lib.hid hux
  have HX := Lib.hid hx
  have HOK := Lib.hid hok
  have HWF := Lib.hid h.wf
  have HH1 := Lib.hid H1
  have HW1 := Lib.hid hw1
  subst hop
  have HHO := Lib.hid (r7_hold H1 true a hua)
  clear h H1 hb1 hw1 ha hb hua hub hux hx hok
  go_enter Try.func113, Try.ntmps113
  go_upto_region 1 with (fail)
  rw [← HW1.out]
  go_wp2_with fail
  refine HGA.out.mono ?_
  rintro e w2 ⟨rfl, rfl⟩
  go_wp2_with fail
  refine HGB.out.mono ?_
  rintro e w3 ⟨rfl, rfl⟩
  go_wp2_with fail
  refine HLD.out.mono ?_
  rintro e w4 ⟨rfl, rfl⟩
  have m1 := (HK.out _ _ _ HHO.out.2).get (j := 1) rfl
  simp only [Nat.add_zero, Nat.zero_add] at m1
  obtain ⟨w5, hw5⟩ : ∃ w5, w5 = (w3.setCell ⟨rp, 33, none⟩ (.bool true)).setCell ⟨rp, 34, none⟩ (.int .u32 a) := ⟨_, rfl⟩
  rw [← hw5] at HHO m1
  have HW5 := Lib.hid hw5
  have HPT := Lib.hid (put7_any HHO.out.1 kd hkd x HUX.out)
  have HG5 := Lib.hid (HG1.out.trans HHO.out.2)
  clear hw5 HHO
  go_upto_region 12 with (fail)
  rw [← HW5.out]
  go_wp2_with fail
  refine HPT.out.mono ?_
  rintro e w6 ⟨rfl, h6, g6⟩
  go_wp2_with fail
  exact bodyPost_ret (results_none (by rfl) _ _ _) rfl ⟨rfl, _, _, h6, HG5.out.trans g6⟩
theorem atom7_d (h : R7 rp 34 60 w d vm vo vs) (op mop mn : Int) (kd ka kb : Nat) (hkd : kd < 36) (hka : ka < 36) (hkb : kb < 36) (hsl : d.stores.length ≤ 100000) (hok : mLoadOk d.m 13 (d.get ka) = true) (hop : op = 47) (hm : (d.h.held && d.h.heldAt == d.get ka) = true) :
    Calls Try.prog 113 #[.pointer (some ⟨rp, 0, none⟩), .int .i64 op, .agg #[.int .i64 mop, .int .i64 kd, .int .i64 ka, .int .i64 kb, .int .u32 mn]] w fun e w' => e = .returned (.tuple #[]) ∧ ∃ vm' vs', R7 rp 34 60 w' (d.atom op kd ka kb) vm' vo vs' ∧ G7 rp w vo vs w' vo vs' := by
  have hlt := h.lt
  obtain ⟨am, cm, rfl, -⟩ := h.mem.open
  obtain ⟨w1, hw1⟩ : ∃ w1, w1 = w.alloc (.cells #[.int .i64 mop, .int .i64 kd, .int .i64 ka, .int .i64 kb, .int .u32 mn] 133) := ⟨_, rfl⟩
  have hb1 : Below w.heap.size w w1 := by rw [hw1]; exact Fb.blw
  have hs1 : w1.heap.size = w.heap.size + 1 := by rw [hw1]; simp
  have c0 : (w1).cell? ⟨w.heap.size, 0, none⟩ = some (.int .i64 mop) := by rw [hw1]; go_cell
  have c1 : (w1).cell? ⟨w.heap.size, 1, none⟩ = some (.int .i64 kd) := by rw [hw1]; go_cell
  have c2 : (w1).cell? ⟨w.heap.size, 2, none⟩ = some (.int .i64 ka) := by rw [hw1]; go_cell
  have c3 : (w1).cell? ⟨w.heap.size, 3, none⟩ = some (.int .i64 kb) := by rw [hw1]; go_cell
  have c4 : (w1).cell? ⟨w.heap.size, 4, none⟩ = some (.int .u32 mn) := by rw [hw1]; go_cell
  have H1 := h.below hb1
  have HK : Hid (∀ w' vo' vs', G7 rp w1 vo vs w' vo' vs' → At w' w.heap.size 0 [.int .i64 mop, .int .i64 kd, .int .i64 ka, .int .i64 kb, .int .u32 mn]) := Lib.hid (fun w' vo' vs' hg => hg.keeps (at_cons c0 (at_cons c1 (at_cons c2 (at_cons c3 (at_cons c4 at_nil))))) (by omega) (fun e => by have := (h.out.lt _ e).2; omega) (fun e => by have := (h.sto.lt _ e).2; omega))
  have HG1 : Hid (G7 rp w vo vs w1 vo vs) := Lib.hid (G7.below hb1)
  have HGA := Lib.hid (get7_any H1 ka hka)
  have HGB := Lib.hid (get7_any H1 kb hkb)
  obtain ⟨a, ha⟩ : ∃ a, a = d.get ka := ⟨_, rfl⟩
  obtain ⟨b, hb⟩ : ∃ b, b = d.get kb := ⟨_, rfl⟩
  have hua : U32 a := by rw [ha]; exact get_u32 h.wf ka
  have hub : U32 b := by rw [hb]; exact get_u32 h.wf kb
  have HLD := Lib.hid (load3_any (.slice am d.m.length cm) d.m 13 a w1 H1.mem hua h.wf.m.getD)
  rw [← ha] at HGA hok
  rw [← hb] at HGB
  rw [hok] at HLD
  obtain ⟨x, hx⟩ : ∃ x, x = mLoad d.m 13 a := ⟨_, rfl⟩
  have hux : U32 x := by rw [hx]; exact mLoad_u13 d.m a hua h.wf.m.getD
  rw [← hx] at HLD
  have c37 := H1.at_.get ((r7_tail (vm := .slice am d.m.length cm) (vo := vo) (vs := vs) h.wf.h.len 0).trans (show (r7tail d (.slice am d.m.length cm) vo vs)[0]? = some (.slice am d.m.length cm) from rfl))
  simp only [Nat.zero_add, Nat.reduceAdd] at c37
  have hres : d.atom op kd ka kb = (((d.hold false 0).mem 18 a b).stored a 4).put kd 0 := by
    unfold RunD.atom
    rw [← ha, ← hb, hok, ← hx]
    rw [if_pos rfl, if_neg (by omega), if_pos hop, if_pos (by rw [ha]; exact hm)]
  rw [hres]
  clear hres
  have c33 := H1.at_.get ((r7_hart h.wf.h.len (by omega)).trans (hlist_held h.wf.h))
  have c34 := H1.at_.get ((r7_hart h.wf.h.len (by omega)).trans (hlist_heldAt h.wf.h))
  have f33 := H1.frz 33
  have f34 := H1.frz 34
  simp only [Nat.zero_add, Nat.reduceAdd] at c33 c34
  have hm1 : d.h.held = true := by simp at hm; exact hm.1
  have hm2 : d.h.heldAt = a := by simp at hm; rw [ha]; exact hm.2
  rw [hm1] at c33
  rw [hm2] at c34
  clear hm hm1 hm2
  have HUA := Lib.hid hua
  have HUB := Lib.hid hub
  have HUX := Lib.hid hux
  have HX := Lib.hid hx
  have HOK := Lib.hid hok
  have HWF := Lib.hid h.wf
  have HH1 := Lib.hid H1
  have HW1 := Lib.hid hw1
  subst hop
  have HHO := Lib.hid (r7_hold H1 false 0 u32_0)
  have HAM := Lib.hid (amo1_any 47 x b w1 hux.1 hux.2 hub.1 hub.2)
  clear h H1 hb1 hw1 ha hb hua hub hux hx hok
  go_enter Try.func113, Try.ntmps113
  go_upto_region 1 with (fail)
  rw [← HW1.out]
  go_wp2_with fail
  refine HGA.out.mono ?_
  rintro e w2 ⟨rfl, rfl⟩
  go_wp2_with fail
  refine HGB.out.mono ?_
  rintro e w3 ⟨rfl, rfl⟩
  go_wp2_with fail
  refine HLD.out.mono ?_
  rintro e w4 ⟨rfl, rfl⟩
  go_wp2_with fail
  refine HAM.out.mono ?_
  rintro e w5 ⟨rfl, nd, hw5⟩
  have hb5 : Below w3.heap.size w3 w5 := by rw [hw5]; exact below_drewN (Below.refl _ _) nd
  have H5 := Lib.hid (HH1.out.below hb5)
  have HG5 : Hid (G7 rp w3 vo vs w5 vo vs) := Lib.hid (G7.below hb5)
  have hs5 := hb5.size
  have y33 := (H5.out).at_.get ((r7_hart (H5.out).wf.h.len (by omega)).trans (hlist_held (H5.out).wf.h))
  have z33 := (H5.out).frz 33
  have y34 := (H5.out).at_.get ((r7_hart (H5.out).wf.h.len (by omega)).trans (hlist_heldAt (H5.out).wf.h))
  have z34 := (H5.out).frz 34
  simp only [Nat.zero_add, Nat.reduceAdd] at y33 y34
  have x33 := (hb5.cell (p := ⟨rp, 33, none⟩) HH1.out.lt).trans c33
  have x34 := (hb5.cell (p := ⟨rp, 34, none⟩) HH1.out.lt).trans c34
  clear y33 y34 hw5 hb5
  obtain ⟨w6, hw6⟩ : ∃ w6, w6 = (w5.setCell ⟨rp, 33, none⟩ (.bool false)).setCell ⟨rp, 34, none⟩ (.int .u32 0) := ⟨_, rfl⟩
  have H6 := Lib.hid (r7_hold H5.out false 0 u32_0)
  rw [← hw6] at H6
  have HG6 := Lib.hid (HG5.out.trans H6.out.2)
  have HW6 := Lib.hid hw6
  clear hw6
  have hua2 := HUB.out
  have y37 := (H6.out.1).at_.get ((r7_tail (vm := .slice am d.m.length cm) (vo := vo) (vs := vs) (H6.out.1).wf.h.len 0).trans (show (r7tail (d.hold false 0) (.slice am d.m.length cm) vo vs)[0]? = some (.slice am d.m.length cm) from rfl))
  have z37 := (H6.out.1).frz 37
  simp only [Nat.zero_add, Nat.reduceAdd] at y37
  go_upto_region 18 with (fail)
  rw [← HW6.out]
  clear x33 x34
  obtain ⟨an, han⟩ : ∃ an : Nat, a = (an : Int) := Int.eq_ofNat_of_zero_le HUA.out.1
  have HST := Lib.hid (store3_yes (.slice am d.m.length cm) d.m 18 an b w6 (H6.out.1).mem (by rw [← han]; exact HUA.out) hua2 (by rw [store_load, ← han]; exact HOK.out) (by have := HWF.out.mlen; omega))
  rw [← han] at HST
  have hlm := HWF.out.mlen
  clear han
  go_wp2_with fail
  refine HST.out.mono ?_
  rintro e w7 ⟨⟨v7, rfl, hm7, hf7⟩, hb7⟩
  have hne7 : mStore d.m 18 a b ≠ [] := by
    intro e
    have h1 := congrArg List.length e
    rw [mStore_length] at h1
    exact loadOk_ne HOK.out HUA.out (List.eq_nil_of_length_eq_zero (by simpa using h1))
  have HM7 := Lib.hid (r7_mem (H6.out.1) hb7 hm7 (fun q e => ⟨hf7 q e, ints_lt hm7 hne7 e⟩) (mStore_bytes HWF.out.m 18 a b) (by rw [mStore_length]; exact hlm))
  have y37 := (hb7.cell (p := ⟨rp, 37, none⟩) (H6.out.1).lt).trans y37
  have z37 := (hb7.frozen (p := ⟨rp, 37, none⟩) (H6.out.1).lt).trans z37
  obtain ⟨a7, c7, rfl, -⟩ := hm7.open
  obtain ⟨w8, hw8⟩ : ∃ w8, w8 = w7.setCell ⟨rp, 37, none⟩ (.slice a7 (mStore d.m 18 a b).length c7) := ⟨_, rfl⟩
  rw [← hw8] at HM7
  have HW8 := Lib.hid hw8
  have HG8 := Lib.hid (HG6.out.trans HM7.out.2)
  have HSD := Lib.hid (stored7_any HM7.out.1 a 4 HUA.out (by omega) hsl)
  have HSD' : Hid (Calls Try.prog 112 #[.pointer (some ⟨rp, 0, none⟩), .int .u32 a, .int .i64 4] w8 fun e w' => e = .returned (.tuple #[]) ∧ ∃ vs', R7 rp 34 60 w' (((d.hold false 0).mem 18 a b).stored a 4) (.slice a7 (mStore d.m 18 a b).length c7) vo vs' ∧ G7 rp w8 vo vs w' vo vs') := Lib.hid HSD.out
  clear hm7 hf7 hb7 hne7 hw8 HSD HST
  go_upto_region 24 with (fail)
  rw [← HW8.out]
  clear y37 z37
  go_wp2_with fail
  refine HSD'.out.mono ?_
  rintro e w9 ⟨rfl, vs9, h9, g9⟩
  have HG9 := Lib.hid (HG8.out.trans g9)
  have H9 := Lib.hid h9
  have HPT := Lib.hid (put7_any h9 kd hkd 0 u32_0)
  clear h9 g9
  have m1 := (HK.out _ _ _ HG9.out).get (j := 1) rfl
  simp only [Nat.add_zero, Nat.zero_add] at m1
  go_wp2_with fail
  refine HPT.out.mono ?_
  rintro e w10 ⟨rfl, h10, g10⟩
  go_wp2_with fail
  go_end0
  exact ⟨rfl, _, _, h10, HG1.out.trans (HG9.out.trans g10)⟩
theorem atom7_e (h : R7 rp 34 60 w d vm vo vs) (op mop mn : Int) (kd ka kb : Nat) (hkd : kd < 36) (hka : ka < 36) (hkb : kb < 36) (hsl : d.stores.length ≤ 100000) (hok : mLoadOk d.m 13 (d.get ka) = true) (hop : op = 47) (hm : d.h.held = false) :
    Calls Try.prog 113 #[.pointer (some ⟨rp, 0, none⟩), .int .i64 op, .agg #[.int .i64 mop, .int .i64 kd, .int .i64 ka, .int .i64 kb, .int .u32 mn]] w fun e w' => e = .returned (.tuple #[]) ∧ ∃ vm' vs', R7 rp 34 60 w' (d.atom op kd ka kb) vm' vo vs' ∧ G7 rp w vo vs w' vo vs' := by
  have hlt := h.lt
  obtain ⟨am, cm, rfl, -⟩ := h.mem.open
  obtain ⟨w1, hw1⟩ : ∃ w1, w1 = w.alloc (.cells #[.int .i64 mop, .int .i64 kd, .int .i64 ka, .int .i64 kb, .int .u32 mn] 133) := ⟨_, rfl⟩
  have hb1 : Below w.heap.size w w1 := by rw [hw1]; exact Fb.blw
  have hs1 : w1.heap.size = w.heap.size + 1 := by rw [hw1]; simp
  have c0 : (w1).cell? ⟨w.heap.size, 0, none⟩ = some (.int .i64 mop) := by rw [hw1]; go_cell
  have c1 : (w1).cell? ⟨w.heap.size, 1, none⟩ = some (.int .i64 kd) := by rw [hw1]; go_cell
  have c2 : (w1).cell? ⟨w.heap.size, 2, none⟩ = some (.int .i64 ka) := by rw [hw1]; go_cell
  have c3 : (w1).cell? ⟨w.heap.size, 3, none⟩ = some (.int .i64 kb) := by rw [hw1]; go_cell
  have c4 : (w1).cell? ⟨w.heap.size, 4, none⟩ = some (.int .u32 mn) := by rw [hw1]; go_cell
  have H1 := h.below hb1
  have HK : Hid (∀ w' vo' vs', G7 rp w1 vo vs w' vo' vs' → At w' w.heap.size 0 [.int .i64 mop, .int .i64 kd, .int .i64 ka, .int .i64 kb, .int .u32 mn]) := Lib.hid (fun w' vo' vs' hg => hg.keeps (at_cons c0 (at_cons c1 (at_cons c2 (at_cons c3 (at_cons c4 at_nil))))) (by omega) (fun e => by have := (h.out.lt _ e).2; omega) (fun e => by have := (h.sto.lt _ e).2; omega))
  have HG1 : Hid (G7 rp w vo vs w1 vo vs) := Lib.hid (G7.below hb1)
  have HGA := Lib.hid (get7_any H1 ka hka)
  have HGB := Lib.hid (get7_any H1 kb hkb)
  obtain ⟨a, ha⟩ : ∃ a, a = d.get ka := ⟨_, rfl⟩
  obtain ⟨b, hb⟩ : ∃ b, b = d.get kb := ⟨_, rfl⟩
  have hua : U32 a := by rw [ha]; exact get_u32 h.wf ka
  have hub : U32 b := by rw [hb]; exact get_u32 h.wf kb
  have HLD := Lib.hid (load3_any (.slice am d.m.length cm) d.m 13 a w1 H1.mem hua h.wf.m.getD)
  rw [← ha] at HGA hok
  rw [← hb] at HGB
  rw [hok] at HLD
  obtain ⟨x, hx⟩ : ∃ x, x = mLoad d.m 13 a := ⟨_, rfl⟩
  have hux : U32 x := by rw [hx]; exact mLoad_u13 d.m a hua h.wf.m.getD
  rw [← hx] at HLD
  have c37 := H1.at_.get ((r7_tail (vm := .slice am d.m.length cm) (vo := vo) (vs := vs) h.wf.h.len 0).trans (show (r7tail d (.slice am d.m.length cm) vo vs)[0]? = some (.slice am d.m.length cm) from rfl))
  simp only [Nat.zero_add, Nat.reduceAdd] at c37
  have hres : d.atom op kd ka kb = (d.hold false 0).put kd 1 := by
    unfold RunD.atom
    rw [← ha, ← hb, hok, ← hx]
    rw [if_pos rfl, if_neg (by omega), if_pos hop, if_neg (by rw [hm]; simp)]
  rw [hres]
  clear hres
  have c33 := H1.at_.get ((r7_hart h.wf.h.len (by omega)).trans (hlist_held h.wf.h))
  have c34 := H1.at_.get ((r7_hart h.wf.h.len (by omega)).trans (hlist_heldAt h.wf.h))
  have f33 := H1.frz 33
  have f34 := H1.frz 34
  simp only [Nat.zero_add, Nat.reduceAdd] at c33 c34
  rw [hm] at c33
  clear hm
  have HUA := Lib.hid hua
  have HUB := Lib.hid hub
  have HUX := Lib.hid hux
  have HX := Lib.hid hx
  have HOK := Lib.hid hok
  have HWF := Lib.hid h.wf
  have HH1 := Lib.hid H1
  have HW1 := Lib.hid hw1
  subst hop
  have HHO := Lib.hid (r7_hold H1 false 0 u32_0)
  have HAM := Lib.hid (amo1_any 47 x b w1 hux.1 hux.2 hub.1 hub.2)
  clear h H1 hb1 hw1 ha hb hua hub hux hx hok
  go_enter Try.func113, Try.ntmps113
  go_upto_region 1 with (fail)
  rw [← HW1.out]
  go_wp2_with fail
  refine HGA.out.mono ?_
  rintro e w2 ⟨rfl, rfl⟩
  go_wp2_with fail
  refine HGB.out.mono ?_
  rintro e w3 ⟨rfl, rfl⟩
  go_wp2_with fail
  refine HLD.out.mono ?_
  rintro e w4 ⟨rfl, rfl⟩
  go_wp2_with fail
  refine HAM.out.mono ?_
  rintro e w5 ⟨rfl, nd, hw5⟩
  have hb5 : Below w3.heap.size w3 w5 := by rw [hw5]; exact below_drewN (Below.refl _ _) nd
  have H5 := Lib.hid (HH1.out.below hb5)
  have HG5 : Hid (G7 rp w3 vo vs w5 vo vs) := Lib.hid (G7.below hb5)
  have hs5 := hb5.size
  have y33 := (H5.out).at_.get ((r7_hart (H5.out).wf.h.len (by omega)).trans (hlist_held (H5.out).wf.h))
  have z33 := (H5.out).frz 33
  have y34 := (H5.out).at_.get ((r7_hart (H5.out).wf.h.len (by omega)).trans (hlist_heldAt (H5.out).wf.h))
  have z34 := (H5.out).frz 34
  simp only [Nat.zero_add, Nat.reduceAdd] at y33 y34
  have x33 := (hb5.cell (p := ⟨rp, 33, none⟩) HH1.out.lt).trans c33
  have x34 := (hb5.cell (p := ⟨rp, 34, none⟩) HH1.out.lt).trans c34
  clear y33 y34 hw5 hb5
  obtain ⟨w6, hw6⟩ : ∃ w6, w6 = (w5.setCell ⟨rp, 33, none⟩ (.bool false)).setCell ⟨rp, 34, none⟩ (.int .u32 0) := ⟨_, rfl⟩
  have H6 := Lib.hid (r7_hold H5.out false 0 u32_0)
  rw [← hw6] at H6
  have HG6 := Lib.hid (HG5.out.trans H6.out.2)
  have HW6 := Lib.hid hw6
  clear hw6
  have m1 := (HK.out _ _ _ HG6.out).get (j := 1) rfl
  simp only [Nat.add_zero, Nat.zero_add] at m1
  have HPT := Lib.hid (put7_any H6.out.1 kd hkd 1 ⟨by omega, by omega⟩)
  go_upto_region 18 with (fail)
  rw [← HW6.out]
  clear x33 x34
  go_wp2_with fail
  refine HPT.out.mono ?_
  rintro e w7 ⟨rfl, h7, g7⟩
  go_wp2_with fail
  exact bodyPost_ret (results_none (by rfl) _ _ _) rfl ⟨rfl, _, _, h7, HG1.out.trans (HG6.out.trans g7)⟩
theorem atom7_f (h : R7 rp 34 60 w d vm vo vs) (op mop mn : Int) (kd ka kb : Nat) (hkd : kd < 36) (hka : ka < 36) (hkb : kb < 36) (hsl : d.stores.length ≤ 100000) (hok : mLoadOk d.m 13 (d.get ka) = true) (hop : op = 47) (hm : d.h.held = true ∧ ¬ d.h.heldAt = d.get ka) :
    Calls Try.prog 113 #[.pointer (some ⟨rp, 0, none⟩), .int .i64 op, .agg #[.int .i64 mop, .int .i64 kd, .int .i64 ka, .int .i64 kb, .int .u32 mn]] w fun e w' => e = .returned (.tuple #[]) ∧ ∃ vm' vs', R7 rp 34 60 w' (d.atom op kd ka kb) vm' vo vs' ∧ G7 rp w vo vs w' vo vs' := by
  have hlt := h.lt
  obtain ⟨am, cm, rfl, -⟩ := h.mem.open
  obtain ⟨w1, hw1⟩ : ∃ w1, w1 = w.alloc (.cells #[.int .i64 mop, .int .i64 kd, .int .i64 ka, .int .i64 kb, .int .u32 mn] 133) := ⟨_, rfl⟩
  have hb1 : Below w.heap.size w w1 := by rw [hw1]; exact Fb.blw
  have hs1 : w1.heap.size = w.heap.size + 1 := by rw [hw1]; simp
  have c0 : (w1).cell? ⟨w.heap.size, 0, none⟩ = some (.int .i64 mop) := by rw [hw1]; go_cell
  have c1 : (w1).cell? ⟨w.heap.size, 1, none⟩ = some (.int .i64 kd) := by rw [hw1]; go_cell
  have c2 : (w1).cell? ⟨w.heap.size, 2, none⟩ = some (.int .i64 ka) := by rw [hw1]; go_cell
  have c3 : (w1).cell? ⟨w.heap.size, 3, none⟩ = some (.int .i64 kb) := by rw [hw1]; go_cell
  have c4 : (w1).cell? ⟨w.heap.size, 4, none⟩ = some (.int .u32 mn) := by rw [hw1]; go_cell
  have H1 := h.below hb1
  have HK : Hid (∀ w' vo' vs', G7 rp w1 vo vs w' vo' vs' → At w' w.heap.size 0 [.int .i64 mop, .int .i64 kd, .int .i64 ka, .int .i64 kb, .int .u32 mn]) := Lib.hid (fun w' vo' vs' hg => hg.keeps (at_cons c0 (at_cons c1 (at_cons c2 (at_cons c3 (at_cons c4 at_nil))))) (by omega) (fun e => by have := (h.out.lt _ e).2; omega) (fun e => by have := (h.sto.lt _ e).2; omega))
  have HG1 : Hid (G7 rp w vo vs w1 vo vs) := Lib.hid (G7.below hb1)
  have HGA := Lib.hid (get7_any H1 ka hka)
  have HGB := Lib.hid (get7_any H1 kb hkb)
  obtain ⟨a, ha⟩ : ∃ a, a = d.get ka := ⟨_, rfl⟩
  obtain ⟨b, hb⟩ : ∃ b, b = d.get kb := ⟨_, rfl⟩
  have hua : U32 a := by rw [ha]; exact get_u32 h.wf ka
  have hub : U32 b := by rw [hb]; exact get_u32 h.wf kb
  have HLD := Lib.hid (load3_any (.slice am d.m.length cm) d.m 13 a w1 H1.mem hua h.wf.m.getD)
  rw [← ha] at HGA hok
  rw [← hb] at HGB
  rw [hok] at HLD
  obtain ⟨x, hx⟩ : ∃ x, x = mLoad d.m 13 a := ⟨_, rfl⟩
  have hux : U32 x := by rw [hx]; exact mLoad_u13 d.m a hua h.wf.m.getD
  rw [← hx] at HLD
  have c37 := H1.at_.get ((r7_tail (vm := .slice am d.m.length cm) (vo := vo) (vs := vs) h.wf.h.len 0).trans (show (r7tail d (.slice am d.m.length cm) vo vs)[0]? = some (.slice am d.m.length cm) from rfl))
  simp only [Nat.zero_add, Nat.reduceAdd] at c37
  have hres : d.atom op kd ka kb = (d.hold false 0).put kd 1 := by
    unfold RunD.atom
    rw [← ha, ← hb, hok, ← hx]
    rw [if_pos rfl, if_neg (by omega), if_pos hop, if_neg (by rw [hm.1]; simp; rw [ha]; exact hm.2)]
  rw [hres]
  clear hres
  have c33 := H1.at_.get ((r7_hart h.wf.h.len (by omega)).trans (hlist_held h.wf.h))
  have c34 := H1.at_.get ((r7_hart h.wf.h.len (by omega)).trans (hlist_heldAt h.wf.h))
  have f33 := H1.frz 33
  have f34 := H1.frz 34
  simp only [Nat.zero_add, Nat.reduceAdd] at c33 c34
  rw [hm.1] at c33
  obtain ⟨ht, hht⟩ : ∃ ht, ht = d.h.heldAt := ⟨_, rfl⟩
  have hne : (ht == a) = false := by rw [hht, ha]; simp; exact hm.2
  rw [← hht] at c34
  clear hm hht
  have HUA := Lib.hid hua
  have HUB := Lib.hid hub
  have HUX := Lib.hid hux
  have HX := Lib.hid hx
  have HOK := Lib.hid hok
  have HWF := Lib.hid h.wf
  have HH1 := Lib.hid H1
  have HW1 := Lib.hid hw1
  subst hop
  have HHO := Lib.hid (r7_hold H1 false 0 u32_0)
  have HAM := Lib.hid (amo1_any 47 x b w1 hux.1 hux.2 hub.1 hub.2)
  clear h H1 hb1 hw1 ha hb hua hub hux hx hok
  go_enter Try.func113, Try.ntmps113
  go_upto_region 1 with (fail)
  rw [← HW1.out]
  go_wp2_with fail
  refine HGA.out.mono ?_
  rintro e w2 ⟨rfl, rfl⟩
  go_wp2_with fail
  refine HGB.out.mono ?_
  rintro e w3 ⟨rfl, rfl⟩
  go_wp2_with fail
  refine HLD.out.mono ?_
  rintro e w4 ⟨rfl, rfl⟩
  go_wp2_with fail
  refine HAM.out.mono ?_
  rintro e w5 ⟨rfl, nd, hw5⟩
  have hb5 : Below w3.heap.size w3 w5 := by rw [hw5]; exact below_drewN (Below.refl _ _) nd
  have H5 := Lib.hid (HH1.out.below hb5)
  have HG5 : Hid (G7 rp w3 vo vs w5 vo vs) := Lib.hid (G7.below hb5)
  have hs5 := hb5.size
  have y33 := (H5.out).at_.get ((r7_hart (H5.out).wf.h.len (by omega)).trans (hlist_held (H5.out).wf.h))
  have z33 := (H5.out).frz 33
  have y34 := (H5.out).at_.get ((r7_hart (H5.out).wf.h.len (by omega)).trans (hlist_heldAt (H5.out).wf.h))
  have z34 := (H5.out).frz 34
  simp only [Nat.zero_add, Nat.reduceAdd] at y33 y34
  have x33 := (hb5.cell (p := ⟨rp, 33, none⟩) HH1.out.lt).trans c33
  have x34 := (hb5.cell (p := ⟨rp, 34, none⟩) HH1.out.lt).trans c34
  clear y33 y34 hw5 hb5
  obtain ⟨w6, hw6⟩ : ∃ w6, w6 = (w5.setCell ⟨rp, 33, none⟩ (.bool false)).setCell ⟨rp, 34, none⟩ (.int .u32 0) := ⟨_, rfl⟩
  have H6 := Lib.hid (r7_hold H5.out false 0 u32_0)
  rw [← hw6] at H6
  have HG6 := Lib.hid (HG5.out.trans H6.out.2)
  have HW6 := Lib.hid hw6
  clear hw6
  have m1 := (HK.out _ _ _ HG6.out).get (j := 1) rfl
  simp only [Nat.add_zero, Nat.zero_add] at m1
  have HPT := Lib.hid (put7_any H6.out.1 kd hkd 1 ⟨by omega, by omega⟩)
  go_upto_region 18 with (fail)
  rw [← HW6.out]
  clear x33 x34
  go_wp2_with fail
  refine HPT.out.mono ?_
  rintro e w7 ⟨rfl, h7, g7⟩
  go_wp2_with fail
  exact bodyPost_ret (results_none (by rfl) _ _ _) rfl ⟨rfl, _, _, h7, HG1.out.trans (HG6.out.trans g7)⟩
theorem atom7_g (h : R7 rp 34 60 w d vm vo vs) (op mop mn : Int) (kd ka kb : Nat) (hkd : kd < 36) (hka : ka < 36) (hkb : kb < 36) (hsl : d.stores.length ≤ 100000) (hok : mLoadOk d.m 13 (d.get ka) = true) (hop : ¬ op = 46) (hop2 : ¬ op = 47) :
    Calls Try.prog 113 #[.pointer (some ⟨rp, 0, none⟩), .int .i64 op, .agg #[.int .i64 mop, .int .i64 kd, .int .i64 ka, .int .i64 kb, .int .u32 mn]] w fun e w' => e = .returned (.tuple #[]) ∧ ∃ vm' vs', R7 rp 34 60 w' (d.atom op kd ka kb) vm' vo vs' ∧ G7 rp w vo vs w' vo vs' := by
  have hlt := h.lt
  obtain ⟨am, cm, rfl, -⟩ := h.mem.open
  obtain ⟨w1, hw1⟩ : ∃ w1, w1 = w.alloc (.cells #[.int .i64 mop, .int .i64 kd, .int .i64 ka, .int .i64 kb, .int .u32 mn] 133) := ⟨_, rfl⟩
  have hb1 : Below w.heap.size w w1 := by rw [hw1]; exact Fb.blw
  have hs1 : w1.heap.size = w.heap.size + 1 := by rw [hw1]; simp
  have c0 : (w1).cell? ⟨w.heap.size, 0, none⟩ = some (.int .i64 mop) := by rw [hw1]; go_cell
  have c1 : (w1).cell? ⟨w.heap.size, 1, none⟩ = some (.int .i64 kd) := by rw [hw1]; go_cell
  have c2 : (w1).cell? ⟨w.heap.size, 2, none⟩ = some (.int .i64 ka) := by rw [hw1]; go_cell
  have c3 : (w1).cell? ⟨w.heap.size, 3, none⟩ = some (.int .i64 kb) := by rw [hw1]; go_cell
  have c4 : (w1).cell? ⟨w.heap.size, 4, none⟩ = some (.int .u32 mn) := by rw [hw1]; go_cell
  have H1 := h.below hb1
  have HK : Hid (∀ w' vo' vs', G7 rp w1 vo vs w' vo' vs' → At w' w.heap.size 0 [.int .i64 mop, .int .i64 kd, .int .i64 ka, .int .i64 kb, .int .u32 mn]) := Lib.hid (fun w' vo' vs' hg => hg.keeps (at_cons c0 (at_cons c1 (at_cons c2 (at_cons c3 (at_cons c4 at_nil))))) (by omega) (fun e => by have := (h.out.lt _ e).2; omega) (fun e => by have := (h.sto.lt _ e).2; omega))
  have HG1 : Hid (G7 rp w vo vs w1 vo vs) := Lib.hid (G7.below hb1)
  have HGA := Lib.hid (get7_any H1 ka hka)
  have HGB := Lib.hid (get7_any H1 kb hkb)
  obtain ⟨a, ha⟩ : ∃ a, a = d.get ka := ⟨_, rfl⟩
  obtain ⟨b, hb⟩ : ∃ b, b = d.get kb := ⟨_, rfl⟩
  have hua : U32 a := by rw [ha]; exact get_u32 h.wf ka
  have hub : U32 b := by rw [hb]; exact get_u32 h.wf kb
  have HLD := Lib.hid (load3_any (.slice am d.m.length cm) d.m 13 a w1 H1.mem hua h.wf.m.getD)
  rw [← ha] at HGA hok
  rw [← hb] at HGB
  rw [hok] at HLD
  obtain ⟨x, hx⟩ : ∃ x, x = mLoad d.m 13 a := ⟨_, rfl⟩
  have hux : U32 x := by rw [hx]; exact mLoad_u13 d.m a hua h.wf.m.getD
  rw [← hx] at HLD
  have c37 := H1.at_.get ((r7_tail (vm := .slice am d.m.length cm) (vo := vo) (vs := vs) h.wf.h.len 0).trans (show (r7tail d (.slice am d.m.length cm) vo vs)[0]? = some (.slice am d.m.length cm) from rfl))
  simp only [Nat.zero_add, Nat.reduceAdd] at c37
  have hres : d.atom op kd ka kb = ((d.mem 18 a (amo op x b)).stored a 4).put kd x := by
    unfold RunD.atom
    rw [← ha, ← hb, hok, ← hx]
    rw [if_pos rfl, if_neg hop, if_neg hop2]
  rw [hres]
  clear hres
  have HUA := Lib.hid hua
  have HUB := Lib.hid hub
  have HUX := Lib.hid hux
  have HX := Lib.hid hx
  have HOK := Lib.hid hok
  have HWF := Lib.hid h.wf
  have HH1 := Lib.hid H1
  have HW1 := Lib.hid hw1
  have p1 : (op == 46) = false := by simp; omega
  have p2 : decide (op = 46) = false := by simp; omega
  have p3 : (op == 47) = false := by simp; omega
  have p4 : decide (op = 47) = false := by simp; omega
  clear hop hop2
  have HAM := Lib.hid (amo1_any op x b w1 hux.1 hux.2 hub.1 hub.2)
  clear h H1 hb1 hw1 ha hb hua hub hux hx hok
  go_enter Try.func113, Try.ntmps113
  go_upto_region 1 with (fail)
  rw [← HW1.out]
  go_wp2_with fail
  refine HGA.out.mono ?_
  rintro e w2 ⟨rfl, rfl⟩
  go_wp2_with fail
  refine HGB.out.mono ?_
  rintro e w3 ⟨rfl, rfl⟩
  go_wp2_with fail
  refine HLD.out.mono ?_
  rintro e w4 ⟨rfl, rfl⟩
  go_wp2_with fail
  refine HAM.out.mono ?_
  rintro e w5 ⟨rfl, nd, hw5⟩
  have hb5 : Below w3.heap.size w3 w5 := by rw [hw5]; exact below_drewN (Below.refl _ _) nd
  have H5 := Lib.hid (HH1.out.below hb5)
  have HG5 : Hid (G7 rp w3 vo vs w5 vo vs) := Lib.hid (G7.below hb5)
  have hs5 := hb5.size
  clear hw5 hb5
  have hua2 : U32 (amo op x b) := amo_lo op x b HUX.out HUB.out
  have y37 := (H5.out).at_.get ((r7_tail (vm := .slice am d.m.length cm) (vo := vo) (vs := vs) (H5.out).wf.h.len 0).trans (show (r7tail (d) (.slice am d.m.length cm) vo vs)[0]? = some (.slice am d.m.length cm) from rfl))
  have z37 := (H5.out).frz 37
  simp only [Nat.zero_add, Nat.reduceAdd] at y37
  obtain ⟨an, han⟩ : ∃ an : Nat, a = (an : Int) := Int.eq_ofNat_of_zero_le HUA.out.1
  have HST := Lib.hid (store3_yes (.slice am d.m.length cm) d.m 18 an (amo op x b) w5 (H5.out).mem (by rw [← han]; exact HUA.out) hua2 (by rw [store_load, ← han]; exact HOK.out) (by have := HWF.out.mlen; omega))
  rw [← han] at HST
  have hlm := HWF.out.mlen
  clear han
  go_wp2_with fail
  refine HST.out.mono ?_
  rintro e w7 ⟨⟨v7, rfl, hm7, hf7⟩, hb7⟩
  have hne7 : mStore d.m 18 a (amo op x b) ≠ [] := by
    intro e
    have h1 := congrArg List.length e
    rw [mStore_length] at h1
    exact loadOk_ne HOK.out HUA.out (List.eq_nil_of_length_eq_zero (by simpa using h1))
  have HM7 := Lib.hid (r7_mem (H5.out) hb7 hm7 (fun q e => ⟨hf7 q e, ints_lt hm7 hne7 e⟩) (mStore_bytes HWF.out.m 18 a (amo op x b)) (by rw [mStore_length]; exact hlm))
  have y37 := (hb7.cell (p := ⟨rp, 37, none⟩) (H5.out).lt).trans y37
  have z37 := (hb7.frozen (p := ⟨rp, 37, none⟩) (H5.out).lt).trans z37
  obtain ⟨a7, c7, rfl, -⟩ := hm7.open
  obtain ⟨w8, hw8⟩ : ∃ w8, w8 = w7.setCell ⟨rp, 37, none⟩ (.slice a7 (mStore d.m 18 a (amo op x b)).length c7) := ⟨_, rfl⟩
  rw [← hw8] at HM7
  have HW8 := Lib.hid hw8
  have HG8 := Lib.hid (HG5.out.trans HM7.out.2)
  have HSD := Lib.hid (stored7_any HM7.out.1 a 4 HUA.out (by omega) hsl)
  have HSD' : Hid (Calls Try.prog 112 #[.pointer (some ⟨rp, 0, none⟩), .int .u32 a, .int .i64 4] w8 fun e w' => e = .returned (.tuple #[]) ∧ ∃ vs', R7 rp 34 60 w' (((d).mem 18 a (amo op x b)).stored a 4) (.slice a7 (mStore d.m 18 a (amo op x b)).length c7) vo vs' ∧ G7 rp w8 vo vs w' vo vs') := Lib.hid HSD.out
  clear hm7 hf7 hb7 hne7 hw8 HSD HST
  go_upto_region 24 with (fail)
  rw [← HW8.out]
  clear y37 z37
  go_wp2_with fail
  refine HSD'.out.mono ?_
  rintro e w9 ⟨rfl, vs9, h9, g9⟩
  have HG9 := Lib.hid (HG8.out.trans g9)
  have H9 := Lib.hid h9
  have HPT := Lib.hid (put7_any h9 kd hkd x HUX.out)
  clear h9 g9
  have m1 := (HK.out _ _ _ HG9.out).get (j := 1) rfl
  simp only [Nat.add_zero, Nat.zero_add] at m1
  go_wp2_with fail
  refine HPT.out.mono ?_
  rintro e w10 ⟨rfl, h10, g10⟩
  go_wp2_with fail
  go_end0
  exact ⟨rfl, _, _, h10, HG1.out.trans (HG9.out.trans g10)⟩
end
end Go.Proofs.Ytlfnddmncbkjaab.W
namespace Go.Proofs.Ytlfnddmncbkjaab.Fb
open Go.RowKit
def namedK (c s : Int) : Int :=
  if c = 100 then (if 5 ≤ s ∧ s ≤ 10 then 14 else -1)
  else if c = 200 then (if 11 ≤ s ∧ s ≤ 15 then 11 else -1)
  else if c = 300 then (if 16 ≤ s ∧ s ≤ 18 then 14 else -1)
  else if c = 400 then (if 28 ≤ s ∧ s ≤ 45 then 7 else -1)
  else if c = 500 then (if 28 ≤ s ∧ s ≤ 45 then 11 else -1)
  else if c = 600 then (if 46 ≤ s ∧ s ≤ 56 then 7 else -1)
  else -1
theorem namedI_k {op : Int} (h : ¬ (op = 1 ∨ op = 3) ∧ ¬ op = 2 ∧ ¬ op = 4 ∧ ¬ (op = 5 ∨ op = 6)) : namedI op = namedK (op - op.tmod 100) (op.tmod 100) := by
  unfold namedI namedK
  rw [if_neg h.1, if_neg h.2.1, if_neg h.2.2.1, if_neg h.2.2.2]
theorem tmod100 (op : Int) (h : -9223372036854775808 ≤ op ∧ op ≤ 9223372036854775807) : wrap64 (op - op.tmod 100) = op - op.tmod 100 ∧ -100 < op.tmod 100 ∧ op.tmod 100 < 100 := by
  have h1 : -100 < op.tmod 100 ∧ op.tmod 100 < 100 := by
    rcases Int.le_total 0 op with h0 | h0
    · rw [Int.tmod_eq_emod_of_nonneg h0]; omega
    · have e : op.tmod 100 = -((-op).tmod 100) := by rw [Int.neg_tmod]; simp
      rw [e, Int.tmod_eq_emod_of_nonneg (by omega)]; omega
  have h2 : (0 ≤ op → 0 ≤ op.tmod 100 ∧ op.tmod 100 ≤ op) ∧ (op ≤ 0 → op ≤ op.tmod 100 ∧ op.tmod 100 ≤ 0) := by
    refine ⟨fun h0 => ?_, fun h0 => ?_⟩
    · rw [Int.tmod_eq_emod_of_nonneg h0]; omega
    · have e : op.tmod 100 = -((-op).tmod 100) := by rw [Int.neg_tmod]; simp
      rw [e, Int.tmod_eq_emod_of_nonneg (by omega)]; omega
  refine ⟨?_, h1⟩
  unfold wrap64
  rcases Int.le_total 0 op with h0 | h0
  · have := h2.1 h0; omega
  · have := h2.2 h0; omega
end Go.Proofs.Ytlfnddmncbkjaab.Fb
namespace Go.Proofs.Ytlfnddmncbkjaab.W
open Go.RowKit Fb
theorem named7_1 (w : World) : Calls Try.prog 79 #[.int .i64 1] w fun e w' => e = .returned (.int .i64 8) ∧ w' = w := by
  go_enter Try.func79, Try.ntmps79
  go_wp2_with fail
  go_ret
  exact ⟨rfl, rfl⟩
theorem named7_3 (w : World) : Calls Try.prog 79 #[.int .i64 3] w fun e w' => e = .returned (.int .i64 8) ∧ w' = w := by
  go_enter Try.func79, Try.ntmps79
  go_wp2_with fail
  go_ret
  exact ⟨rfl, rfl⟩
theorem named7_2 (w : World) : Calls Try.prog 79 #[.int .i64 2] w fun e w' => e = .returned (.int .i64 9) ∧ w' = w := by
  go_enter Try.func79, Try.ntmps79
  go_wp2_with fail
  go_ret
  exact ⟨rfl, rfl⟩
theorem named7_4 (w : World) : Calls Try.prog 79 #[.int .i64 4] w fun e w' => e = .returned (.int .i64 10) ∧ w' = w := by
  go_enter Try.func79, Try.ntmps79
  go_wp2_with fail
  go_ret
  exact ⟨rfl, rfl⟩
theorem named7_5 (w : World) : Calls Try.prog 79 #[.int .i64 5] w fun e w' => e = .returned (.int .i64 0) ∧ w' = w := by
  go_enter Try.func79, Try.ntmps79
  go_wp2_with fail
  go_ret
  exact ⟨rfl, rfl⟩
theorem named7_6 (w : World) : Calls Try.prog 79 #[.int .i64 6] w fun e w' => e = .returned (.int .i64 0) ∧ w' = w := by
  go_enter Try.func79, Try.ntmps79
  go_wp2_with fail
  go_ret
  exact ⟨rfl, rfl⟩
theorem named7_k100_in (op s : Int) (w : World) (h1 : ¬ op = 1) (h2 : ¬ op = 2) (h3 : ¬ op = 3) (h4 : ¬ op = 4) (h5 : ¬ op = 5) (h6 : ¬ op = 6) (hw : wrap64 (op - op.tmod 100) = 100) (hm : op.tmod 100 = s) (hs : 5 ≤ s ∧ s ≤ 10)  : Calls Try.prog 79 #[.int .i64 op] w fun e w' => e = .returned (.int .i64 14) ∧ w' = w := by
  have a1 : (op == 1) = false := by simp; omega
  have d1 : decide (op = 1) = false := by simp; omega
  have a2 : (op == 2) = false := by simp; omega
  have d2 : decide (op = 2) = false := by simp; omega
  have a3 : (op == 3) = false := by simp; omega
  have d3 : decide (op = 3) = false := by simp; omega
  have a4 : (op == 4) = false := by simp; omega
  have d4 : decide (op = 4) = false := by simp; omega
  have a5 : (op == 5) = false := by simp; omega
  have d5 : decide (op = 5) = false := by simp; omega
  have a6 : (op == 6) = false := by simp; omega
  have d6 : decide (op = 6) = false := by simp; omega
  obtain ⟨s1, s2⟩ := hs
  have b1 : decide (5 ≤ s) = true := decide_eq_true s1
  have b2 : decide (s ≤ 10) = true := decide_eq_true s2
  have HW := Lib.hid hw
  have HM := Lib.hid hm
  clear hw hm
  go_enter Try.func79, Try.ntmps79
  go_upto_region 13 with (fail)
  try rw [HM.out]
  go_upto_region 14 with (fail)
  try rw [HM.out]
  (try rw [← HM.out, HW.out]); (try rw [HM.out])
  go_wp2_with fail
  go_ret
  exact ⟨rfl, rfl⟩
theorem named7_k100_lo (op s : Int) (w : World) (h1 : ¬ op = 1) (h2 : ¬ op = 2) (h3 : ¬ op = 3) (h4 : ¬ op = 4) (h5 : ¬ op = 5) (h6 : ¬ op = 6) (hw : wrap64 (op - op.tmod 100) = 100) (hm : op.tmod 100 = s) (hs : ¬ 5 ≤ s)  : Calls Try.prog 79 #[.int .i64 op] w fun e w' => e = .returned (.int .i64 (-1)) ∧ w' = w := by
  have a1 : (op == 1) = false := by simp; omega
  have d1 : decide (op = 1) = false := by simp; omega
  have a2 : (op == 2) = false := by simp; omega
  have d2 : decide (op = 2) = false := by simp; omega
  have a3 : (op == 3) = false := by simp; omega
  have d3 : decide (op = 3) = false := by simp; omega
  have a4 : (op == 4) = false := by simp; omega
  have d4 : decide (op = 4) = false := by simp; omega
  have a5 : (op == 5) = false := by simp; omega
  have d5 : decide (op = 5) = false := by simp; omega
  have a6 : (op == 6) = false := by simp; omega
  have d6 : decide (op = 6) = false := by simp; omega
  have b1 : decide (5 ≤ s) = false := decide_eq_false hs
  have HW := Lib.hid hw
  have HM := Lib.hid hm
  clear hw hm
  go_enter Try.func79, Try.ntmps79
  go_upto_region 13 with (fail)
  try rw [HM.out]
  go_upto_region 14 with (fail)
  try rw [HM.out]
  (try rw [← HM.out, HW.out]); (try rw [HM.out])
  go_wp2_with fail
  go_ret
  exact ⟨rfl, rfl⟩
theorem named7_k100_hi (op s : Int) (w : World) (h1 : ¬ op = 1) (h2 : ¬ op = 2) (h3 : ¬ op = 3) (h4 : ¬ op = 4) (h5 : ¬ op = 5) (h6 : ¬ op = 6) (hw : wrap64 (op - op.tmod 100) = 100) (hm : op.tmod 100 = s) (hs : 5 ≤ s ∧ ¬ s ≤ 10)  : Calls Try.prog 79 #[.int .i64 op] w fun e w' => e = .returned (.int .i64 (-1)) ∧ w' = w := by
  have a1 : (op == 1) = false := by simp; omega
  have d1 : decide (op = 1) = false := by simp; omega
  have a2 : (op == 2) = false := by simp; omega
  have d2 : decide (op = 2) = false := by simp; omega
  have a3 : (op == 3) = false := by simp; omega
  have d3 : decide (op = 3) = false := by simp; omega
  have a4 : (op == 4) = false := by simp; omega
  have d4 : decide (op = 4) = false := by simp; omega
  have a5 : (op == 5) = false := by simp; omega
  have d5 : decide (op = 5) = false := by simp; omega
  have a6 : (op == 6) = false := by simp; omega
  have d6 : decide (op = 6) = false := by simp; omega
  obtain ⟨s1, s2⟩ := hs
  have b1 : decide (5 ≤ s) = true := decide_eq_true s1
  have b2 : decide (s ≤ 10) = false := decide_eq_false s2
  have HW := Lib.hid hw
  have HM := Lib.hid hm
  clear hw hm
  go_enter Try.func79, Try.ntmps79
  go_upto_region 13 with (fail)
  try rw [HM.out]
  go_upto_region 14 with (fail)
  try rw [HM.out]
  (try rw [← HM.out, HW.out]); (try rw [HM.out])
  go_wp2_with fail
  go_ret
  exact ⟨rfl, rfl⟩
theorem named7_k200_in (op s : Int) (w : World) (h1 : ¬ op = 1) (h2 : ¬ op = 2) (h3 : ¬ op = 3) (h4 : ¬ op = 4) (h5 : ¬ op = 5) (h6 : ¬ op = 6) (hw : wrap64 (op - op.tmod 100) = 200) (hm : op.tmod 100 = s) (hs : 11 ≤ s ∧ s ≤ 15)  : Calls Try.prog 79 #[.int .i64 op] w fun e w' => e = .returned (.int .i64 11) ∧ w' = w := by
  have a1 : (op == 1) = false := by simp; omega
  have d1 : decide (op = 1) = false := by simp; omega
  have a2 : (op == 2) = false := by simp; omega
  have d2 : decide (op = 2) = false := by simp; omega
  have a3 : (op == 3) = false := by simp; omega
  have d3 : decide (op = 3) = false := by simp; omega
  have a4 : (op == 4) = false := by simp; omega
  have d4 : decide (op = 4) = false := by simp; omega
  have a5 : (op == 5) = false := by simp; omega
  have d5 : decide (op = 5) = false := by simp; omega
  have a6 : (op == 6) = false := by simp; omega
  have d6 : decide (op = 6) = false := by simp; omega
  obtain ⟨s1, s2⟩ := hs
  have b1 : decide (11 ≤ s) = true := decide_eq_true s1
  have b2 : decide (s ≤ 15) = true := decide_eq_true s2
  have HW := Lib.hid hw
  have HM := Lib.hid hm
  clear hw hm
  go_enter Try.func79, Try.ntmps79
  go_upto_region 13 with (fail)
  try rw [HM.out]
  go_upto_region 14 with (fail)
  try rw [HM.out]
  (try rw [← HM.out, HW.out]); (try rw [HM.out])
  go_wp2_with fail
  go_ret
  exact ⟨rfl, rfl⟩
theorem named7_k200_lo (op s : Int) (w : World) (h1 : ¬ op = 1) (h2 : ¬ op = 2) (h3 : ¬ op = 3) (h4 : ¬ op = 4) (h5 : ¬ op = 5) (h6 : ¬ op = 6) (hw : wrap64 (op - op.tmod 100) = 200) (hm : op.tmod 100 = s) (hs : ¬ 11 ≤ s)  : Calls Try.prog 79 #[.int .i64 op] w fun e w' => e = .returned (.int .i64 (-1)) ∧ w' = w := by
  have a1 : (op == 1) = false := by simp; omega
  have d1 : decide (op = 1) = false := by simp; omega
  have a2 : (op == 2) = false := by simp; omega
  have d2 : decide (op = 2) = false := by simp; omega
  have a3 : (op == 3) = false := by simp; omega
  have d3 : decide (op = 3) = false := by simp; omega
  have a4 : (op == 4) = false := by simp; omega
  have d4 : decide (op = 4) = false := by simp; omega
  have a5 : (op == 5) = false := by simp; omega
  have d5 : decide (op = 5) = false := by simp; omega
  have a6 : (op == 6) = false := by simp; omega
  have d6 : decide (op = 6) = false := by simp; omega
  have b1 : decide (11 ≤ s) = false := decide_eq_false hs
  have HW := Lib.hid hw
  have HM := Lib.hid hm
  clear hw hm
  go_enter Try.func79, Try.ntmps79
  go_upto_region 13 with (fail)
  try rw [HM.out]
  go_upto_region 14 with (fail)
  try rw [HM.out]
  (try rw [← HM.out, HW.out]); (try rw [HM.out])
  go_wp2_with fail
  go_ret
  exact ⟨rfl, rfl⟩
theorem named7_k200_hi (op s : Int) (w : World) (h1 : ¬ op = 1) (h2 : ¬ op = 2) (h3 : ¬ op = 3) (h4 : ¬ op = 4) (h5 : ¬ op = 5) (h6 : ¬ op = 6) (hw : wrap64 (op - op.tmod 100) = 200) (hm : op.tmod 100 = s) (hs : 11 ≤ s ∧ ¬ s ≤ 15)  : Calls Try.prog 79 #[.int .i64 op] w fun e w' => e = .returned (.int .i64 (-1)) ∧ w' = w := by
  have a1 : (op == 1) = false := by simp; omega
  have d1 : decide (op = 1) = false := by simp; omega
  have a2 : (op == 2) = false := by simp; omega
  have d2 : decide (op = 2) = false := by simp; omega
  have a3 : (op == 3) = false := by simp; omega
  have d3 : decide (op = 3) = false := by simp; omega
  have a4 : (op == 4) = false := by simp; omega
  have d4 : decide (op = 4) = false := by simp; omega
  have a5 : (op == 5) = false := by simp; omega
  have d5 : decide (op = 5) = false := by simp; omega
  have a6 : (op == 6) = false := by simp; omega
  have d6 : decide (op = 6) = false := by simp; omega
  obtain ⟨s1, s2⟩ := hs
  have b1 : decide (11 ≤ s) = true := decide_eq_true s1
  have b2 : decide (s ≤ 15) = false := decide_eq_false s2
  have HW := Lib.hid hw
  have HM := Lib.hid hm
  clear hw hm
  go_enter Try.func79, Try.ntmps79
  go_upto_region 13 with (fail)
  try rw [HM.out]
  go_upto_region 14 with (fail)
  try rw [HM.out]
  (try rw [← HM.out, HW.out]); (try rw [HM.out])
  go_wp2_with fail
  go_ret
  exact ⟨rfl, rfl⟩
theorem named7_k300_in (op s : Int) (w : World) (h1 : ¬ op = 1) (h2 : ¬ op = 2) (h3 : ¬ op = 3) (h4 : ¬ op = 4) (h5 : ¬ op = 5) (h6 : ¬ op = 6) (hw : wrap64 (op - op.tmod 100) = 300) (hm : op.tmod 100 = s) (hs : 16 ≤ s ∧ s ≤ 18)  : Calls Try.prog 79 #[.int .i64 op] w fun e w' => e = .returned (.int .i64 14) ∧ w' = w := by
  have a1 : (op == 1) = false := by simp; omega
  have d1 : decide (op = 1) = false := by simp; omega
  have a2 : (op == 2) = false := by simp; omega
  have d2 : decide (op = 2) = false := by simp; omega
  have a3 : (op == 3) = false := by simp; omega
  have d3 : decide (op = 3) = false := by simp; omega
  have a4 : (op == 4) = false := by simp; omega
  have d4 : decide (op = 4) = false := by simp; omega
  have a5 : (op == 5) = false := by simp; omega
  have d5 : decide (op = 5) = false := by simp; omega
  have a6 : (op == 6) = false := by simp; omega
  have d6 : decide (op = 6) = false := by simp; omega
  obtain ⟨s1, s2⟩ := hs
  have b1 : decide (16 ≤ s) = true := decide_eq_true s1
  have b2 : decide (s ≤ 18) = true := decide_eq_true s2
  have HW := Lib.hid hw
  have HM := Lib.hid hm
  clear hw hm
  go_enter Try.func79, Try.ntmps79
  go_upto_region 13 with (fail)
  try rw [HM.out]
  go_upto_region 14 with (fail)
  try rw [HM.out]
  (try rw [← HM.out, HW.out]); (try rw [HM.out])
  go_wp2_with fail
  go_ret
  exact ⟨rfl, rfl⟩
theorem named7_k300_lo (op s : Int) (w : World) (h1 : ¬ op = 1) (h2 : ¬ op = 2) (h3 : ¬ op = 3) (h4 : ¬ op = 4) (h5 : ¬ op = 5) (h6 : ¬ op = 6) (hw : wrap64 (op - op.tmod 100) = 300) (hm : op.tmod 100 = s) (hs : ¬ 16 ≤ s)  : Calls Try.prog 79 #[.int .i64 op] w fun e w' => e = .returned (.int .i64 (-1)) ∧ w' = w := by
  have a1 : (op == 1) = false := by simp; omega
  have d1 : decide (op = 1) = false := by simp; omega
  have a2 : (op == 2) = false := by simp; omega
  have d2 : decide (op = 2) = false := by simp; omega
  have a3 : (op == 3) = false := by simp; omega
  have d3 : decide (op = 3) = false := by simp; omega
  have a4 : (op == 4) = false := by simp; omega
  have d4 : decide (op = 4) = false := by simp; omega
  have a5 : (op == 5) = false := by simp; omega
  have d5 : decide (op = 5) = false := by simp; omega
  have a6 : (op == 6) = false := by simp; omega
  have d6 : decide (op = 6) = false := by simp; omega
  have b1 : decide (16 ≤ s) = false := decide_eq_false hs
  have HW := Lib.hid hw
  have HM := Lib.hid hm
  clear hw hm
  go_enter Try.func79, Try.ntmps79
  go_upto_region 13 with (fail)
  try rw [HM.out]
  go_upto_region 14 with (fail)
  try rw [HM.out]
  (try rw [← HM.out, HW.out]); (try rw [HM.out])
  go_wp2_with fail
  go_ret
  exact ⟨rfl, rfl⟩
theorem named7_k300_hi (op s : Int) (w : World) (h1 : ¬ op = 1) (h2 : ¬ op = 2) (h3 : ¬ op = 3) (h4 : ¬ op = 4) (h5 : ¬ op = 5) (h6 : ¬ op = 6) (hw : wrap64 (op - op.tmod 100) = 300) (hm : op.tmod 100 = s) (hs : 16 ≤ s ∧ ¬ s ≤ 18)  : Calls Try.prog 79 #[.int .i64 op] w fun e w' => e = .returned (.int .i64 (-1)) ∧ w' = w := by
  have a1 : (op == 1) = false := by simp; omega
  have d1 : decide (op = 1) = false := by simp; omega
  have a2 : (op == 2) = false := by simp; omega
  have d2 : decide (op = 2) = false := by simp; omega
  have a3 : (op == 3) = false := by simp; omega
  have d3 : decide (op = 3) = false := by simp; omega
  have a4 : (op == 4) = false := by simp; omega
  have d4 : decide (op = 4) = false := by simp; omega
  have a5 : (op == 5) = false := by simp; omega
  have d5 : decide (op = 5) = false := by simp; omega
  have a6 : (op == 6) = false := by simp; omega
  have d6 : decide (op = 6) = false := by simp; omega
  obtain ⟨s1, s2⟩ := hs
  have b1 : decide (16 ≤ s) = true := decide_eq_true s1
  have b2 : decide (s ≤ 18) = false := decide_eq_false s2
  have HW := Lib.hid hw
  have HM := Lib.hid hm
  clear hw hm
  go_enter Try.func79, Try.ntmps79
  go_upto_region 13 with (fail)
  try rw [HM.out]
  go_upto_region 14 with (fail)
  try rw [HM.out]
  (try rw [← HM.out, HW.out]); (try rw [HM.out])
  go_wp2_with fail
  go_ret
  exact ⟨rfl, rfl⟩
theorem named7_k400_in (op s : Int) (w : World) (h1 : ¬ op = 1) (h2 : ¬ op = 2) (h3 : ¬ op = 3) (h4 : ¬ op = 4) (h5 : ¬ op = 5) (h6 : ¬ op = 6) (hw : wrap64 (op - op.tmod 100) = 400) (hm : op.tmod 100 = s) (hs : 28 ≤ s ∧ s ≤ 45)  : Calls Try.prog 79 #[.int .i64 op] w fun e w' => e = .returned (.int .i64 7) ∧ w' = w := by
  have a1 : (op == 1) = false := by simp; omega
  have d1 : decide (op = 1) = false := by simp; omega
  have a2 : (op == 2) = false := by simp; omega
  have d2 : decide (op = 2) = false := by simp; omega
  have a3 : (op == 3) = false := by simp; omega
  have d3 : decide (op = 3) = false := by simp; omega
  have a4 : (op == 4) = false := by simp; omega
  have d4 : decide (op = 4) = false := by simp; omega
  have a5 : (op == 5) = false := by simp; omega
  have d5 : decide (op = 5) = false := by simp; omega
  have a6 : (op == 6) = false := by simp; omega
  have d6 : decide (op = 6) = false := by simp; omega
  obtain ⟨s1, s2⟩ := hs
  have b1 : decide (28 ≤ s) = true := decide_eq_true s1
  have b2 : decide (s ≤ 45) = true := decide_eq_true s2
  have HW := Lib.hid hw
  have HM := Lib.hid hm
  clear hw hm
  go_enter Try.func79, Try.ntmps79
  go_upto_region 13 with (fail)
  try rw [HM.out]
  go_upto_region 14 with (fail)
  try rw [HM.out]
  (try rw [← HM.out, HW.out]); (try rw [HM.out])
  go_wp2_with fail
  go_ret
  exact ⟨rfl, rfl⟩
theorem named7_k400_lo (op s : Int) (w : World) (h1 : ¬ op = 1) (h2 : ¬ op = 2) (h3 : ¬ op = 3) (h4 : ¬ op = 4) (h5 : ¬ op = 5) (h6 : ¬ op = 6) (hw : wrap64 (op - op.tmod 100) = 400) (hm : op.tmod 100 = s) (hs : ¬ 28 ≤ s)  : Calls Try.prog 79 #[.int .i64 op] w fun e w' => e = .returned (.int .i64 (-1)) ∧ w' = w := by
  have a1 : (op == 1) = false := by simp; omega
  have d1 : decide (op = 1) = false := by simp; omega
  have a2 : (op == 2) = false := by simp; omega
  have d2 : decide (op = 2) = false := by simp; omega
  have a3 : (op == 3) = false := by simp; omega
  have d3 : decide (op = 3) = false := by simp; omega
  have a4 : (op == 4) = false := by simp; omega
  have d4 : decide (op = 4) = false := by simp; omega
  have a5 : (op == 5) = false := by simp; omega
  have d5 : decide (op = 5) = false := by simp; omega
  have a6 : (op == 6) = false := by simp; omega
  have d6 : decide (op = 6) = false := by simp; omega
  have b1 : decide (28 ≤ s) = false := decide_eq_false hs
  have HW := Lib.hid hw
  have HM := Lib.hid hm
  clear hw hm
  go_enter Try.func79, Try.ntmps79
  go_upto_region 13 with (fail)
  try rw [HM.out]
  go_upto_region 14 with (fail)
  try rw [HM.out]
  (try rw [← HM.out, HW.out]); (try rw [HM.out])
  go_wp2_with fail
  go_ret
  exact ⟨rfl, rfl⟩
theorem named7_k400_hi (op s : Int) (w : World) (h1 : ¬ op = 1) (h2 : ¬ op = 2) (h3 : ¬ op = 3) (h4 : ¬ op = 4) (h5 : ¬ op = 5) (h6 : ¬ op = 6) (hw : wrap64 (op - op.tmod 100) = 400) (hm : op.tmod 100 = s) (hs : 28 ≤ s ∧ ¬ s ≤ 45)  : Calls Try.prog 79 #[.int .i64 op] w fun e w' => e = .returned (.int .i64 (-1)) ∧ w' = w := by
  have a1 : (op == 1) = false := by simp; omega
  have d1 : decide (op = 1) = false := by simp; omega
  have a2 : (op == 2) = false := by simp; omega
  have d2 : decide (op = 2) = false := by simp; omega
  have a3 : (op == 3) = false := by simp; omega
  have d3 : decide (op = 3) = false := by simp; omega
  have a4 : (op == 4) = false := by simp; omega
  have d4 : decide (op = 4) = false := by simp; omega
  have a5 : (op == 5) = false := by simp; omega
  have d5 : decide (op = 5) = false := by simp; omega
  have a6 : (op == 6) = false := by simp; omega
  have d6 : decide (op = 6) = false := by simp; omega
  obtain ⟨s1, s2⟩ := hs
  have b1 : decide (28 ≤ s) = true := decide_eq_true s1
  have b2 : decide (s ≤ 45) = false := decide_eq_false s2
  have HW := Lib.hid hw
  have HM := Lib.hid hm
  clear hw hm
  go_enter Try.func79, Try.ntmps79
  go_upto_region 13 with (fail)
  try rw [HM.out]
  go_upto_region 14 with (fail)
  try rw [HM.out]
  (try rw [← HM.out, HW.out]); (try rw [HM.out])
  go_wp2_with fail
  go_ret
  exact ⟨rfl, rfl⟩
theorem named7_k500_in (op s : Int) (w : World) (h1 : ¬ op = 1) (h2 : ¬ op = 2) (h3 : ¬ op = 3) (h4 : ¬ op = 4) (h5 : ¬ op = 5) (h6 : ¬ op = 6) (hw : wrap64 (op - op.tmod 100) = 500) (hm : op.tmod 100 = s) (hs : 28 ≤ s ∧ s ≤ 45)  : Calls Try.prog 79 #[.int .i64 op] w fun e w' => e = .returned (.int .i64 11) ∧ w' = w := by
  have a1 : (op == 1) = false := by simp; omega
  have d1 : decide (op = 1) = false := by simp; omega
  have a2 : (op == 2) = false := by simp; omega
  have d2 : decide (op = 2) = false := by simp; omega
  have a3 : (op == 3) = false := by simp; omega
  have d3 : decide (op = 3) = false := by simp; omega
  have a4 : (op == 4) = false := by simp; omega
  have d4 : decide (op = 4) = false := by simp; omega
  have a5 : (op == 5) = false := by simp; omega
  have d5 : decide (op = 5) = false := by simp; omega
  have a6 : (op == 6) = false := by simp; omega
  have d6 : decide (op = 6) = false := by simp; omega
  obtain ⟨s1, s2⟩ := hs
  have b1 : decide (28 ≤ s) = true := decide_eq_true s1
  have b2 : decide (s ≤ 45) = true := decide_eq_true s2
  have HW := Lib.hid hw
  have HM := Lib.hid hm
  clear hw hm
  go_enter Try.func79, Try.ntmps79
  go_upto_region 13 with (fail)
  try rw [HM.out]
  go_upto_region 14 with (fail)
  try rw [HM.out]
  (try rw [← HM.out, HW.out]); (try rw [HM.out])
  go_wp2_with fail
  go_ret
  exact ⟨rfl, rfl⟩
theorem named7_k500_lo (op s : Int) (w : World) (h1 : ¬ op = 1) (h2 : ¬ op = 2) (h3 : ¬ op = 3) (h4 : ¬ op = 4) (h5 : ¬ op = 5) (h6 : ¬ op = 6) (hw : wrap64 (op - op.tmod 100) = 500) (hm : op.tmod 100 = s) (hs : ¬ 28 ≤ s)  : Calls Try.prog 79 #[.int .i64 op] w fun e w' => e = .returned (.int .i64 (-1)) ∧ w' = w := by
  have a1 : (op == 1) = false := by simp; omega
  have d1 : decide (op = 1) = false := by simp; omega
  have a2 : (op == 2) = false := by simp; omega
  have d2 : decide (op = 2) = false := by simp; omega
  have a3 : (op == 3) = false := by simp; omega
  have d3 : decide (op = 3) = false := by simp; omega
  have a4 : (op == 4) = false := by simp; omega
  have d4 : decide (op = 4) = false := by simp; omega
  have a5 : (op == 5) = false := by simp; omega
  have d5 : decide (op = 5) = false := by simp; omega
  have a6 : (op == 6) = false := by simp; omega
  have d6 : decide (op = 6) = false := by simp; omega
  have b1 : decide (28 ≤ s) = false := decide_eq_false hs
  have HW := Lib.hid hw
  have HM := Lib.hid hm
  clear hw hm
  go_enter Try.func79, Try.ntmps79
  go_upto_region 13 with (fail)
  try rw [HM.out]
  go_upto_region 14 with (fail)
  try rw [HM.out]
  (try rw [← HM.out, HW.out]); (try rw [HM.out])
  go_wp2_with fail
  go_ret
  exact ⟨rfl, rfl⟩
theorem named7_k500_hi (op s : Int) (w : World) (h1 : ¬ op = 1) (h2 : ¬ op = 2) (h3 : ¬ op = 3) (h4 : ¬ op = 4) (h5 : ¬ op = 5) (h6 : ¬ op = 6) (hw : wrap64 (op - op.tmod 100) = 500) (hm : op.tmod 100 = s) (hs : 28 ≤ s ∧ ¬ s ≤ 45)  : Calls Try.prog 79 #[.int .i64 op] w fun e w' => e = .returned (.int .i64 (-1)) ∧ w' = w := by
  have a1 : (op == 1) = false := by simp; omega
  have d1 : decide (op = 1) = false := by simp; omega
  have a2 : (op == 2) = false := by simp; omega
  have d2 : decide (op = 2) = false := by simp; omega
  have a3 : (op == 3) = false := by simp; omega
  have d3 : decide (op = 3) = false := by simp; omega
  have a4 : (op == 4) = false := by simp; omega
  have d4 : decide (op = 4) = false := by simp; omega
  have a5 : (op == 5) = false := by simp; omega
  have d5 : decide (op = 5) = false := by simp; omega
  have a6 : (op == 6) = false := by simp; omega
  have d6 : decide (op = 6) = false := by simp; omega
  obtain ⟨s1, s2⟩ := hs
  have b1 : decide (28 ≤ s) = true := decide_eq_true s1
  have b2 : decide (s ≤ 45) = false := decide_eq_false s2
  have HW := Lib.hid hw
  have HM := Lib.hid hm
  clear hw hm
  go_enter Try.func79, Try.ntmps79
  go_upto_region 13 with (fail)
  try rw [HM.out]
  go_upto_region 14 with (fail)
  try rw [HM.out]
  (try rw [← HM.out, HW.out]); (try rw [HM.out])
  go_wp2_with fail
  go_ret
  exact ⟨rfl, rfl⟩
theorem named7_k600_in (op s : Int) (w : World) (h1 : ¬ op = 1) (h2 : ¬ op = 2) (h3 : ¬ op = 3) (h4 : ¬ op = 4) (h5 : ¬ op = 5) (h6 : ¬ op = 6) (hw : wrap64 (op - op.tmod 100) = 600) (hm : op.tmod 100 = s) (hs : 46 ≤ s ∧ s ≤ 56)  : Calls Try.prog 79 #[.int .i64 op] w fun e w' => e = .returned (.int .i64 7) ∧ w' = w := by
  have a1 : (op == 1) = false := by simp; omega
  have d1 : decide (op = 1) = false := by simp; omega
  have a2 : (op == 2) = false := by simp; omega
  have d2 : decide (op = 2) = false := by simp; omega
  have a3 : (op == 3) = false := by simp; omega
  have d3 : decide (op = 3) = false := by simp; omega
  have a4 : (op == 4) = false := by simp; omega
  have d4 : decide (op = 4) = false := by simp; omega
  have a5 : (op == 5) = false := by simp; omega
  have d5 : decide (op = 5) = false := by simp; omega
  have a6 : (op == 6) = false := by simp; omega
  have d6 : decide (op = 6) = false := by simp; omega
  obtain ⟨s1, s2⟩ := hs
  have b1 : decide (46 ≤ s) = true := decide_eq_true s1
  have b2 : decide (s ≤ 56) = true := decide_eq_true s2
  have HW := Lib.hid hw
  have HM := Lib.hid hm
  clear hw hm
  go_enter Try.func79, Try.ntmps79
  go_upto_region 13 with (fail)
  try rw [HM.out]
  go_upto_region 14 with (fail)
  try rw [HM.out]
  (try rw [← HM.out, HW.out]); (try rw [HM.out])
  go_wp2_with fail
  go_ret
  exact ⟨rfl, rfl⟩
theorem named7_k600_lo (op s : Int) (w : World) (h1 : ¬ op = 1) (h2 : ¬ op = 2) (h3 : ¬ op = 3) (h4 : ¬ op = 4) (h5 : ¬ op = 5) (h6 : ¬ op = 6) (hw : wrap64 (op - op.tmod 100) = 600) (hm : op.tmod 100 = s) (hs : ¬ 46 ≤ s)  : Calls Try.prog 79 #[.int .i64 op] w fun e w' => e = .returned (.int .i64 (-1)) ∧ w' = w := by
  have a1 : (op == 1) = false := by simp; omega
  have d1 : decide (op = 1) = false := by simp; omega
  have a2 : (op == 2) = false := by simp; omega
  have d2 : decide (op = 2) = false := by simp; omega
  have a3 : (op == 3) = false := by simp; omega
  have d3 : decide (op = 3) = false := by simp; omega
  have a4 : (op == 4) = false := by simp; omega
  have d4 : decide (op = 4) = false := by simp; omega
  have a5 : (op == 5) = false := by simp; omega
  have d5 : decide (op = 5) = false := by simp; omega
  have a6 : (op == 6) = false := by simp; omega
  have d6 : decide (op = 6) = false := by simp; omega
  have b1 : decide (46 ≤ s) = false := decide_eq_false hs
  have HW := Lib.hid hw
  have HM := Lib.hid hm
  clear hw hm
  go_enter Try.func79, Try.ntmps79
  go_upto_region 13 with (fail)
  try rw [HM.out]
  go_upto_region 14 with (fail)
  try rw [HM.out]
  (try rw [← HM.out, HW.out]); (try rw [HM.out])
  go_wp2_with fail
  go_ret
  exact ⟨rfl, rfl⟩
theorem named7_k600_hi (op s : Int) (w : World) (h1 : ¬ op = 1) (h2 : ¬ op = 2) (h3 : ¬ op = 3) (h4 : ¬ op = 4) (h5 : ¬ op = 5) (h6 : ¬ op = 6) (hw : wrap64 (op - op.tmod 100) = 600) (hm : op.tmod 100 = s) (hs : 46 ≤ s ∧ ¬ s ≤ 56)  : Calls Try.prog 79 #[.int .i64 op] w fun e w' => e = .returned (.int .i64 (-1)) ∧ w' = w := by
  have a1 : (op == 1) = false := by simp; omega
  have d1 : decide (op = 1) = false := by simp; omega
  have a2 : (op == 2) = false := by simp; omega
  have d2 : decide (op = 2) = false := by simp; omega
  have a3 : (op == 3) = false := by simp; omega
  have d3 : decide (op = 3) = false := by simp; omega
  have a4 : (op == 4) = false := by simp; omega
  have d4 : decide (op = 4) = false := by simp; omega
  have a5 : (op == 5) = false := by simp; omega
  have d5 : decide (op = 5) = false := by simp; omega
  have a6 : (op == 6) = false := by simp; omega
  have d6 : decide (op = 6) = false := by simp; omega
  obtain ⟨s1, s2⟩ := hs
  have b1 : decide (46 ≤ s) = true := decide_eq_true s1
  have b2 : decide (s ≤ 56) = false := decide_eq_false s2
  have HW := Lib.hid hw
  have HM := Lib.hid hm
  clear hw hm
  go_enter Try.func79, Try.ntmps79
  go_upto_region 13 with (fail)
  try rw [HM.out]
  go_upto_region 14 with (fail)
  try rw [HM.out]
  (try rw [← HM.out, HW.out]); (try rw [HM.out])
  go_wp2_with fail
  go_ret
  exact ⟨rfl, rfl⟩
theorem named7_k0_no (op s c : Int) (w : World) (h1 : ¬ op = 1) (h2 : ¬ op = 2) (h3 : ¬ op = 3) (h4 : ¬ op = 4) (h5 : ¬ op = 5) (h6 : ¬ op = 6) (hw : wrap64 (op - op.tmod 100) = c) (hm : op.tmod 100 = s)  (n100 : ¬ c = 100) (n200 : ¬ c = 200) (n300 : ¬ c = 300) (n400 : ¬ c = 400) (n500 : ¬ c = 500) (n600 : ¬ c = 600) : Calls Try.prog 79 #[.int .i64 op] w fun e w' => e = .returned (.int .i64 (-1)) ∧ w' = w := by
  have a1 : (op == 1) = false := by simp; omega
  have d1 : decide (op = 1) = false := by simp; omega
  have a2 : (op == 2) = false := by simp; omega
  have d2 : decide (op = 2) = false := by simp; omega
  have a3 : (op == 3) = false := by simp; omega
  have d3 : decide (op = 3) = false := by simp; omega
  have a4 : (op == 4) = false := by simp; omega
  have d4 : decide (op = 4) = false := by simp; omega
  have a5 : (op == 5) = false := by simp; omega
  have d5 : decide (op = 5) = false := by simp; omega
  have a6 : (op == 6) = false := by simp; omega
  have d6 : decide (op = 6) = false := by simp; omega
  have e100 : (c == 100) = false := by simp; omega
  have f100 : decide (c = 100) = false := by simp; omega
  have e200 : (c == 200) = false := by simp; omega
  have f200 : decide (c = 200) = false := by simp; omega
  have e300 : (c == 300) = false := by simp; omega
  have f300 : decide (c = 300) = false := by simp; omega
  have e400 : (c == 400) = false := by simp; omega
  have f400 : decide (c = 400) = false := by simp; omega
  have e500 : (c == 500) = false := by simp; omega
  have f500 : decide (c = 500) = false := by simp; omega
  have e600 : (c == 600) = false := by simp; omega
  have f600 : decide (c = 600) = false := by simp; omega
  have HW := Lib.hid hw
  have HM := Lib.hid hm
  clear hw hm
  go_enter Try.func79, Try.ntmps79
  go_upto_region 13 with (fail)
  try rw [HM.out]
  go_upto_region 14 with (fail)
  try rw [HM.out]
  (try rw [← HM.out, HW.out]); (try rw [HM.out])
  go_wp2_with fail
  go_ret
  exact ⟨rfl, rfl⟩
theorem named7_any (op : Int) (w : World) (hop : -9223372036854775808 ≤ op ∧ op ≤ 9223372036854775807) : Calls Try.prog 79 #[.int .i64 op] w fun e w' => e = .returned (.int .i64 (namedI op)) ∧ w' = w := by
  by_cases h1 : op = 1
  · subst h1; exact named7_1 w
  by_cases h3 : op = 3
  · subst h3; exact named7_3 w
  by_cases h2 : op = 2
  · subst h2; exact named7_2 w
  by_cases h4 : op = 4
  · subst h4; exact named7_4 w
  by_cases h5 : op = 5
  · subst h5; exact named7_5 w
  by_cases h6 : op = 6
  · subst h6; exact named7_6 w
  rw [namedI_k (by omega)]
  obtain ⟨hw, -, -⟩ := tmod100 op hop
  obtain ⟨s, hs⟩ : ∃ s, op.tmod 100 = s := ⟨_, rfl⟩
  rw [hs]
  rw [hs] at hw
  obtain ⟨c, hc⟩ : ∃ c, op - s = c := ⟨_, rfl⟩
  rw [hc] at hw ⊢
  have hw2 : wrap64 (op - op.tmod 100) = c := by rw [hs, hc]; exact hw
  unfold namedK
  by_cases k100 : c = 100
  · subst k100
    rw [if_pos rfl]
    by_cases hl : 5 ≤ s
    · by_cases hh : s ≤ 10
      · rw [if_pos ⟨hl, hh⟩]; exact named7_k100_in op s w h1 h2 h3 h4 h5 h6 hw2 hs ⟨hl, hh⟩
      · rw [if_neg (fun e => hh e.2)]; exact named7_k100_hi op s w h1 h2 h3 h4 h5 h6 hw2 hs ⟨hl, hh⟩
    · rw [if_neg (fun e => hl e.1)]; exact named7_k100_lo op s w h1 h2 h3 h4 h5 h6 hw2 hs hl
  rw [if_neg k100]
  by_cases k200 : c = 200
  · subst k200
    rw [if_pos rfl]
    by_cases hl : 11 ≤ s
    · by_cases hh : s ≤ 15
      · rw [if_pos ⟨hl, hh⟩]; exact named7_k200_in op s w h1 h2 h3 h4 h5 h6 hw2 hs ⟨hl, hh⟩
      · rw [if_neg (fun e => hh e.2)]; exact named7_k200_hi op s w h1 h2 h3 h4 h5 h6 hw2 hs ⟨hl, hh⟩
    · rw [if_neg (fun e => hl e.1)]; exact named7_k200_lo op s w h1 h2 h3 h4 h5 h6 hw2 hs hl
  rw [if_neg k200]
  by_cases k300 : c = 300
  · subst k300
    rw [if_pos rfl]
    by_cases hl : 16 ≤ s
    · by_cases hh : s ≤ 18
      · rw [if_pos ⟨hl, hh⟩]; exact named7_k300_in op s w h1 h2 h3 h4 h5 h6 hw2 hs ⟨hl, hh⟩
      · rw [if_neg (fun e => hh e.2)]; exact named7_k300_hi op s w h1 h2 h3 h4 h5 h6 hw2 hs ⟨hl, hh⟩
    · rw [if_neg (fun e => hl e.1)]; exact named7_k300_lo op s w h1 h2 h3 h4 h5 h6 hw2 hs hl
  rw [if_neg k300]
  by_cases k400 : c = 400
  · subst k400
    rw [if_pos rfl]
    by_cases hl : 28 ≤ s
    · by_cases hh : s ≤ 45
      · rw [if_pos ⟨hl, hh⟩]; exact named7_k400_in op s w h1 h2 h3 h4 h5 h6 hw2 hs ⟨hl, hh⟩
      · rw [if_neg (fun e => hh e.2)]; exact named7_k400_hi op s w h1 h2 h3 h4 h5 h6 hw2 hs ⟨hl, hh⟩
    · rw [if_neg (fun e => hl e.1)]; exact named7_k400_lo op s w h1 h2 h3 h4 h5 h6 hw2 hs hl
  rw [if_neg k400]
  by_cases k500 : c = 500
  · subst k500
    rw [if_pos rfl]
    by_cases hl : 28 ≤ s
    · by_cases hh : s ≤ 45
      · rw [if_pos ⟨hl, hh⟩]; exact named7_k500_in op s w h1 h2 h3 h4 h5 h6 hw2 hs ⟨hl, hh⟩
      · rw [if_neg (fun e => hh e.2)]; exact named7_k500_hi op s w h1 h2 h3 h4 h5 h6 hw2 hs ⟨hl, hh⟩
    · rw [if_neg (fun e => hl e.1)]; exact named7_k500_lo op s w h1 h2 h3 h4 h5 h6 hw2 hs hl
  rw [if_neg k500]
  by_cases k600 : c = 600
  · subst k600
    rw [if_pos rfl]
    by_cases hl : 46 ≤ s
    · by_cases hh : s ≤ 56
      · rw [if_pos ⟨hl, hh⟩]; exact named7_k600_in op s w h1 h2 h3 h4 h5 h6 hw2 hs ⟨hl, hh⟩
      · rw [if_neg (fun e => hh e.2)]; exact named7_k600_hi op s w h1 h2 h3 h4 h5 h6 hw2 hs ⟨hl, hh⟩
    · rw [if_neg (fun e => hl e.1)]; exact named7_k600_lo op s w h1 h2 h3 h4 h5 h6 hw2 hs hl
  rw [if_neg k600]
  exact named7_k0_no op s c w h1 h2 h3 h4 h5 h6 hw2 hs k100 k200 k300 k400 k500 k600
end Go.Proofs.Ytlfnddmncbkjaab.W
namespace Go.Proofs.Ytlfnddmncbkjaab.Fb
open Go.RowKit
def RunD.call (d : RunD) : RunD :=
  if d.h.reg 17 = 0 then { d with over := true, h := ({ d.h with state := 1 } : Hart).setPc d.here }
  else if d.h.reg 17 = 1 then { d with out := d.out ++ [d.h.reg 10] }
  else d.trap 5
def RunD.one (d : RunD) (m : MicD) (steps : Int) : RunD :=
  if m.op = 1 then (if (d.steps == steps || d.own) = true then d.stop m.n else { d with steps := d.steps + 1, here := m.n })
  else if m.op = 2 then d.put m.d.toNat m.n
  else if m.op = 3 then d.stop m.n
  else if m.op = 4 then d.stop (u32 (d.get m.a.toNat + m.n) - u32 (d.get m.a.toNat + m.n) % 2)
  else if m.op = 6 then d.trap 6
  else if m.op = 5 then d.call
  else if m.op - m.op.tmod 100 = 100 then (if holds (m.op.tmod 100) (d.get m.a.toNat) (d.get m.b.toNat) = true then d.stop m.n else d)
  else if m.op - m.op.tmod 100 = 200 then (if mLoadOk d.m (m.op.tmod 100) (u32 (d.get m.a.toNat + m.n)) = true then d.put m.d.toNat (mLoad d.m (m.op.tmod 100) (u32 (d.get m.a.toNat + m.n))) else d.trap 3)
  else if m.op - m.op.tmod 100 = 300 then (if mStoreOk d.m (m.op.tmod 100) (u32 (d.get m.a.toNat + m.n)) = true then (d.mem (m.op.tmod 100) (u32 (d.get m.a.toNat + m.n)) (d.get m.b.toNat)).stored (u32 (d.get m.a.toNat + m.n)) (msize (m.op.tmod 100)).toNat else d.trap 4)
  else if m.op - m.op.tmod 100 = 400 then d.put m.d.toNat (alu (m.op.tmod 100) (d.get m.a.toNat) (d.get m.b.toNat))
  else if m.op - m.op.tmod 100 = 500 then d.put m.d.toNat (alu (m.op.tmod 100) (d.get m.a.toNat) m.n)
  else if m.op - m.op.tmod 100 = 600 then d.atom (m.op.tmod 100) m.d.toNat m.a.toNat m.b.toNat
  else d
section
variable {rp : Nat} {TO TS : TypeId} {w : World} {d : RunD} {vm vo vs : Value}
theorem r7_at (h : R7 rp TO TS w d vm vo vs) (n : Int) (hn : U32 n) (hs : i64ok (d.steps + 1)) : R7 rp TO TS ((w.setCell ⟨rp, 39, none⟩ (.int .i64 (d.steps + 1))).setCell ⟨rp, 45, none⟩ (.int .u32 n)) { d with steps := d.steps + 1, here := n } vm vo vs ∧ G7 rp w vo vs ((w.setCell ⟨rp, 39, none⟩ (.int .i64 (d.steps + 1))).setCell ⟨rp, 45, none⟩ (.int .u32 n)) vo vs := by
  have h1 := r7_setCell (d' := { d with steps := d.steps + 1 }) h 39 (by omega) (.int .i64 (d.steps + 1)) (r7_setTail (j := 2) h.wf.h.len rfl rfl) rfl rfl rfl { h.wf with steps := hs }
  exact ⟨r7_setCell (d' := { d with steps := d.steps + 1, here := n }) h1 45 (by omega) (.int .u32 n) (r7_setEnd (d := { d with steps := d.steps + 1 }) h.wf.h.len h.wf.tlen (j := 0) rfl rfl rfl rfl) rfl rfl rfl { h.wf with steps := hs, here := hn }, (G7.set 39 _).trans (G7.set 45 _)⟩
end
end Go.Proofs.Ytlfnddmncbkjaab.Fb
namespace Go.Proofs.Ytlfnddmncbkjaab.W
open Go.RowKit Fb
theorem quiet_more {P : Program} {f : FuncId} {args : Array Value} {w : World} {n : Nat} {v : Value} (h : Calls P f args (w.drewN n) fun e w' => e = .returned v ∧ ∃ m, w' = (w.drewN n).drewN m) :
    Calls P f args (w.drewN n) fun e w'' => e = .returned v ∧ ∃ m, w'' = w.drewN m :=
  h.mono fun _ _ ⟨he, m, hm⟩ => ⟨he, n + m, by rw [hm, World.drewN_drewN]⟩
section
variable {rp : Nat} {w : World} {d : RunD} {vm vo vs : Value}
theorem atom7_any (h : R7 rp 34 60 w d vm vo vs) (op mop mn : Int) (kd ka kb : Nat) (hkd : kd < 36) (hka : ka < 36) (hkb : kb < 36) (hsl : d.stores.length ≤ 100000) (hop : 46 ≤ op ∧ op ≤ 56) :
    Calls Try.prog 113 #[.pointer (some ⟨rp, 0, none⟩), .int .i64 op, .agg #[.int .i64 mop, .int .i64 kd, .int .i64 ka, .int .i64 kb, .int .u32 mn]] w fun e w' => e = .returned (.tuple #[]) ∧ ∃ vm' vs', R7 rp 34 60 w' (d.atom op kd ka kb) vm' vo vs' ∧ G7 rp w vo vs w' vo vs' := by
  cases hok : mLoadOk d.m 13 (d.get ka) with
  | false =>
    by_cases h46 : op = 46
    · exact atom7_a h op mop mn kd ka kb hkd hka hkb hsl hok h46
    · exact atom7_b h op mop mn kd ka kb hkd hka hkb hsl hok h46
  | true =>
    by_cases h46 : op = 46
    · exact atom7_c h op mop mn kd ka kb hkd hka hkb hsl hok h46
    by_cases h47 : op = 47
    · cases hh : d.h.held with
      | false => exact atom7_e h op mop mn kd ka kb hkd hka hkb hsl hok h47 hh
      | true =>
        by_cases ha : d.h.heldAt = d.get ka
        · exact atom7_d h op mop mn kd ka kb hkd hka hkb hsl hok h47 (by simp [hh, ha])
        · exact atom7_f h op mop mn kd ka kb hkd hka hkb hsl hok h47 ⟨hh, ha⟩
    · exact atom7_g h op mop mn kd ka kb hkd hka hkb hsl hok h46 h47
theorem one7_at_stop (h : R7 rp 34 60 w d vm vo vs) (op n steps : Int) (kd ka kb : Nat) (hkd : kd < 36) (hka : ka < 36) (hkb : kb < 36) (hn : U32 n) (hst : i64ok steps) (hds : 0 ≤ d.steps ∧ d.steps ≤ 100000) (hsl : d.stores.length ≤ 100000)  (hop : op = 1) (hq : d.steps = steps ∨ d.own = true) :
    Calls Try.prog 80 #[.pointer (some ⟨rp, 0, none⟩), .agg #[.int .i64 op, .int .i64 kd, .int .i64 ka, .int .i64 kb, .int .u32 n], .int .i64 steps] w fun e w' => e = .returned (.tuple #[]) ∧ ∃ vm' vo' vs', R7 rp 34 60 w' (d.one ⟨op, kd, ka, kb, n⟩ steps) vm' vo' vs' ∧ G7 rp w vo vs w' vo' vs' := by
  have hlt := h.lt
  obtain ⟨am, cm, rfl, -⟩ := h.mem.open
  obtain ⟨w1, hw1⟩ : ∃ w1, w1 = w.alloc (.cells #[.int .i64 op, .int .i64 kd, .int .i64 ka, .int .i64 kb, .int .u32 n] 133) := ⟨_, rfl⟩
  have hb1 : Below w.heap.size w w1 := by rw [hw1]; exact Fb.blw
  have hs1 : w1.heap.size = w.heap.size + 1 := by rw [hw1]; simp
  have c0 : (w1).cell? ⟨w.heap.size, 0, none⟩ = some (.int .i64 op) := by rw [hw1]; go_cell
  have c1 : (w1).cell? ⟨w.heap.size, 1, none⟩ = some (.int .i64 kd) := by rw [hw1]; go_cell
  have c2 : (w1).cell? ⟨w.heap.size, 2, none⟩ = some (.int .i64 ka) := by rw [hw1]; go_cell
  have c3 : (w1).cell? ⟨w.heap.size, 3, none⟩ = some (.int .i64 kb) := by rw [hw1]; go_cell
  have c4 : (w1).cell? ⟨w.heap.size, 4, none⟩ = some (.int .u32 n) := by rw [hw1]; go_cell
  have H1 := h.below hb1
  have HG1 : Hid (G7 rp w vo vs w1 vo vs) := Lib.hid (G7.below hb1)
  have hres : d.one ⟨op, kd, ka, kb, n⟩ steps = d.stop n := by
    unfold RunD.one
    dsimp only
    rw [if_pos hop]
    rw [if_pos (by rcases hq with e | e <;> simp [e])]
  rw [hres]
  clear hres
  have HH1 := Lib.hid H1
  have HWF := Lib.hid h.wf
  have HW1 := Lib.hid hw1
  have c39 := H1.at_.get ((r7_tail (vm := .slice am d.m.length cm) (vo := vo) (vs := vs) h.wf.h.len 2).trans (show (r7tail d (.slice am d.m.length cm) vo vs)[2]? = some (.int .i64 d.steps) from rfl))
  have c46 := H1.at_.get (r7_end (vm := .slice am d.m.length cm) (vo := vo) (vs := vs) h.wf.h.len h.wf.tlen 1)
  have c45 := H1.at_.get (r7_end (vm := .slice am d.m.length cm) (vo := vo) (vs := vs) h.wf.h.len h.wf.tlen 0)
  have f39 := H1.frz 39
  have f45 := H1.frz 45
  simp only [Nat.zero_add, Nat.reduceAdd] at c39 c46 c45
  subst hop
  clear h H1 hb1 hw1
  have HST := Lib.hid (stop7_any HH1.out n hn)
  by_cases e1 : d.steps = steps
  · have e2 : (d.steps == steps) = true := by simp [e1]
    clear e1 hq
    obtain ⟨ds, hdsq⟩ : ∃ ds, ds = d.steps := ⟨_, rfl⟩
    rw [← hdsq] at c39 e2
    clear hdsq hds
    go_enter Try.func80, Try.ntmps80
    go_upto_region 1 with (fail)
    rw [← HW1.out]
    go_wp2_with fail
    refine HST.out.mono ?_
    rintro e w9 ⟨rfl, h9, g9⟩
    go_wp2_with fail
    first
      | exact bodyPost_ret (results_none (by rfl) _ _ _) rfl ⟨rfl, _, _, _, h9, HG1.out.trans g9⟩
      | (go_end0; exact ⟨rfl, _, _, _, h9, HG1.out.trans g9⟩)
  · have e2 : (d.steps == steps) = false := by simp [e1]
    have e3 : d.own = true := hq.resolve_left e1
    rw [e3] at c46
    clear e1 hq e3
    obtain ⟨ds, hdsq⟩ : ∃ ds, ds = d.steps := ⟨_, rfl⟩
    rw [← hdsq] at c39 e2
    clear hdsq hds
    go_enter Try.func80, Try.ntmps80
    go_upto_region 1 with (fail)
    rw [← HW1.out]
    go_wp2_with fail
    refine HST.out.mono ?_
    rintro e w9 ⟨rfl, h9, g9⟩
    go_wp2_with fail
    first
      | exact bodyPost_ret (results_none (by rfl) _ _ _) rfl ⟨rfl, _, _, _, h9, HG1.out.trans g9⟩
      | (go_end0; exact ⟨rfl, _, _, _, h9, HG1.out.trans g9⟩)
theorem one7_at_go (h : R7 rp 34 60 w d vm vo vs) (op n steps : Int) (kd ka kb : Nat) (hkd : kd < 36) (hka : ka < 36) (hkb : kb < 36) (hn : U32 n) (hst : i64ok steps) (hds : 0 ≤ d.steps ∧ d.steps ≤ 100000) (hsl : d.stores.length ≤ 100000)  (hop : op = 1) (hq : ¬ d.steps = steps) (hq2 : d.own = false) :
    Calls Try.prog 80 #[.pointer (some ⟨rp, 0, none⟩), .agg #[.int .i64 op, .int .i64 kd, .int .i64 ka, .int .i64 kb, .int .u32 n], .int .i64 steps] w fun e w' => e = .returned (.tuple #[]) ∧ ∃ vm' vo' vs', R7 rp 34 60 w' (d.one ⟨op, kd, ka, kb, n⟩ steps) vm' vo' vs' ∧ G7 rp w vo vs w' vo' vs' := by
  have hlt := h.lt
  obtain ⟨am, cm, rfl, -⟩ := h.mem.open
  obtain ⟨w1, hw1⟩ : ∃ w1, w1 = w.alloc (.cells #[.int .i64 op, .int .i64 kd, .int .i64 ka, .int .i64 kb, .int .u32 n] 133) := ⟨_, rfl⟩
  have hb1 : Below w.heap.size w w1 := by rw [hw1]; exact Fb.blw
  have hs1 : w1.heap.size = w.heap.size + 1 := by rw [hw1]; simp
  have c0 : (w1).cell? ⟨w.heap.size, 0, none⟩ = some (.int .i64 op) := by rw [hw1]; go_cell
  have c1 : (w1).cell? ⟨w.heap.size, 1, none⟩ = some (.int .i64 kd) := by rw [hw1]; go_cell
  have c2 : (w1).cell? ⟨w.heap.size, 2, none⟩ = some (.int .i64 ka) := by rw [hw1]; go_cell
  have c3 : (w1).cell? ⟨w.heap.size, 3, none⟩ = some (.int .i64 kb) := by rw [hw1]; go_cell
  have c4 : (w1).cell? ⟨w.heap.size, 4, none⟩ = some (.int .u32 n) := by rw [hw1]; go_cell
  have H1 := h.below hb1
  have HG1 : Hid (G7 rp w vo vs w1 vo vs) := Lib.hid (G7.below hb1)
  have hres : d.one ⟨op, kd, ka, kb, n⟩ steps = { d with steps := d.steps + 1, here := n } := by
    unfold RunD.one
    dsimp only
    rw [if_pos hop]
    rw [if_neg (by simp [hq, hq2])]
  rw [hres]
  clear hres
  have HH1 := Lib.hid H1
  have HWF := Lib.hid h.wf
  have HW1 := Lib.hid hw1
  have c39 := H1.at_.get ((r7_tail (vm := .slice am d.m.length cm) (vo := vo) (vs := vs) h.wf.h.len 2).trans (show (r7tail d (.slice am d.m.length cm) vo vs)[2]? = some (.int .i64 d.steps) from rfl))
  have c46 := H1.at_.get (r7_end (vm := .slice am d.m.length cm) (vo := vo) (vs := vs) h.wf.h.len h.wf.tlen 1)
  have c45 := H1.at_.get (r7_end (vm := .slice am d.m.length cm) (vo := vo) (vs := vs) h.wf.h.len h.wf.tlen 0)
  have f39 := H1.frz 39
  have f45 := H1.frz 45
  simp only [Nat.zero_add, Nat.reduceAdd] at c39 c46 c45
  subst hop
  clear h H1 hb1 hw1
  have HAT := Lib.hid (r7_at HH1.out n hn ⟨by omega, by omega⟩)
  have e2 : (d.steps == steps) = false := by simp [hq]
  have e3 : wrap64 (d.steps + 1) = d.steps + 1 := by unfold wrap64; omega
  rw [hq2] at c46
  clear hq hq2
  go_enter Try.func80, Try.ntmps80
  go_upto_region 1 with (fail)
  rw [← HW1.out]
  go_wp2_with fail
  exact bodyPost_ret (results_none (by rfl) _ _ _) rfl ⟨rfl, _, _, _, HAT.out.1, HG1.out.trans HAT.out.2⟩
theorem one7_set (h : R7 rp 34 60 w d vm vo vs) (op n steps : Int) (kd ka kb : Nat) (hkd : kd < 36) (hka : ka < 36) (hkb : kb < 36) (hn : U32 n) (hst : i64ok steps) (hds : 0 ≤ d.steps ∧ d.steps ≤ 100000) (hsl : d.stores.length ≤ 100000)  (hop : op = 2)  :
    Calls Try.prog 80 #[.pointer (some ⟨rp, 0, none⟩), .agg #[.int .i64 op, .int .i64 kd, .int .i64 ka, .int .i64 kb, .int .u32 n], .int .i64 steps] w fun e w' => e = .returned (.tuple #[]) ∧ ∃ vm' vo' vs', R7 rp 34 60 w' (d.one ⟨op, kd, ka, kb, n⟩ steps) vm' vo' vs' ∧ G7 rp w vo vs w' vo' vs' := by
  have hlt := h.lt
  obtain ⟨am, cm, rfl, -⟩ := h.mem.open
  obtain ⟨w1, hw1⟩ : ∃ w1, w1 = w.alloc (.cells #[.int .i64 op, .int .i64 kd, .int .i64 ka, .int .i64 kb, .int .u32 n] 133) := ⟨_, rfl⟩
  have hb1 : Below w.heap.size w w1 := by rw [hw1]; exact Fb.blw
  have hs1 : w1.heap.size = w.heap.size + 1 := by rw [hw1]; simp
  have c0 : (w1).cell? ⟨w.heap.size, 0, none⟩ = some (.int .i64 op) := by rw [hw1]; go_cell
  have c1 : (w1).cell? ⟨w.heap.size, 1, none⟩ = some (.int .i64 kd) := by rw [hw1]; go_cell
  have c2 : (w1).cell? ⟨w.heap.size, 2, none⟩ = some (.int .i64 ka) := by rw [hw1]; go_cell
  have c3 : (w1).cell? ⟨w.heap.size, 3, none⟩ = some (.int .i64 kb) := by rw [hw1]; go_cell
  have c4 : (w1).cell? ⟨w.heap.size, 4, none⟩ = some (.int .u32 n) := by rw [hw1]; go_cell
  have H1 := h.below hb1
  have HG1 : Hid (G7 rp w vo vs w1 vo vs) := Lib.hid (G7.below hb1)
  have hres : d.one ⟨op, kd, ka, kb, n⟩ steps = d.put kd n := by
    unfold RunD.one
    dsimp only
    rw [if_neg (by omega)]
    rw [if_pos hop]
    (try simp only [Int.toNat_natCast])
  rw [hres]
  clear hres
  have HH1 := Lib.hid H1
  have HWF := Lib.hid h.wf
  have HW1 := Lib.hid hw1
  subst hop
  clear h H1 hb1 hw1
  have HCC := Lib.hid (put7_any HH1.out kd hkd n hn)
  go_enter Try.func80, Try.ntmps80
  go_upto_region 1 with (fail)
  rw [← HW1.out]
  go_wp2_with fail
  refine HCC.out.mono ?_
  rintro e w9 ⟨rfl, h9, g9⟩
  go_wp2_with fail
  first
    | exact bodyPost_ret (results_none (by rfl) _ _ _) rfl ⟨rfl, _, _, _, h9, HG1.out.trans g9⟩
    | (go_end0; exact ⟨rfl, _, _, _, h9, HG1.out.trans g9⟩)
theorem one7_go (h : R7 rp 34 60 w d vm vo vs) (op n steps : Int) (kd ka kb : Nat) (hkd : kd < 36) (hka : ka < 36) (hkb : kb < 36) (hn : U32 n) (hst : i64ok steps) (hds : 0 ≤ d.steps ∧ d.steps ≤ 100000) (hsl : d.stores.length ≤ 100000)  (hop : op = 3)  :
    Calls Try.prog 80 #[.pointer (some ⟨rp, 0, none⟩), .agg #[.int .i64 op, .int .i64 kd, .int .i64 ka, .int .i64 kb, .int .u32 n], .int .i64 steps] w fun e w' => e = .returned (.tuple #[]) ∧ ∃ vm' vo' vs', R7 rp 34 60 w' (d.one ⟨op, kd, ka, kb, n⟩ steps) vm' vo' vs' ∧ G7 rp w vo vs w' vo' vs' := by
  have hlt := h.lt
  obtain ⟨am, cm, rfl, -⟩ := h.mem.open
  obtain ⟨w1, hw1⟩ : ∃ w1, w1 = w.alloc (.cells #[.int .i64 op, .int .i64 kd, .int .i64 ka, .int .i64 kb, .int .u32 n] 133) := ⟨_, rfl⟩
  have hb1 : Below w.heap.size w w1 := by rw [hw1]; exact Fb.blw
  have hs1 : w1.heap.size = w.heap.size + 1 := by rw [hw1]; simp
  have c0 : (w1).cell? ⟨w.heap.size, 0, none⟩ = some (.int .i64 op) := by rw [hw1]; go_cell
  have c1 : (w1).cell? ⟨w.heap.size, 1, none⟩ = some (.int .i64 kd) := by rw [hw1]; go_cell
  have c2 : (w1).cell? ⟨w.heap.size, 2, none⟩ = some (.int .i64 ka) := by rw [hw1]; go_cell
  have c3 : (w1).cell? ⟨w.heap.size, 3, none⟩ = some (.int .i64 kb) := by rw [hw1]; go_cell
  have c4 : (w1).cell? ⟨w.heap.size, 4, none⟩ = some (.int .u32 n) := by rw [hw1]; go_cell
  have H1 := h.below hb1
  have HG1 : Hid (G7 rp w vo vs w1 vo vs) := Lib.hid (G7.below hb1)
  have hres : d.one ⟨op, kd, ka, kb, n⟩ steps = d.stop n := by
    unfold RunD.one
    dsimp only
    rw [if_neg (by omega)]
    rw [if_neg (by omega)]
    rw [if_pos hop]
  rw [hres]
  clear hres
  have HH1 := Lib.hid H1
  have HWF := Lib.hid h.wf
  have HW1 := Lib.hid hw1
  subst hop
  clear h H1 hb1 hw1
  have HCC := Lib.hid (stop7_any HH1.out n hn)
  go_enter Try.func80, Try.ntmps80
  go_upto_region 1 with (fail)
  rw [← HW1.out]
  go_wp2_with fail
  refine HCC.out.mono ?_
  rintro e w9 ⟨rfl, h9, g9⟩
  go_wp2_with fail
  first
    | exact bodyPost_ret (results_none (by rfl) _ _ _) rfl ⟨rfl, _, _, _, h9, HG1.out.trans g9⟩
    | (go_end0; exact ⟨rfl, _, _, _, h9, HG1.out.trans g9⟩)
theorem one7_reg (h : R7 rp 34 60 w d vm vo vs) (op n steps : Int) (kd ka kb : Nat) (hkd : kd < 36) (hka : ka < 36) (hkb : kb < 36) (hn : U32 n) (hst : i64ok steps) (hds : 0 ≤ d.steps ∧ d.steps ≤ 100000) (hsl : d.stores.length ≤ 100000)  (hop : op = 4)  :
    Calls Try.prog 80 #[.pointer (some ⟨rp, 0, none⟩), .agg #[.int .i64 op, .int .i64 kd, .int .i64 ka, .int .i64 kb, .int .u32 n], .int .i64 steps] w fun e w' => e = .returned (.tuple #[]) ∧ ∃ vm' vo' vs', R7 rp 34 60 w' (d.one ⟨op, kd, ka, kb, n⟩ steps) vm' vo' vs' ∧ G7 rp w vo vs w' vo' vs' := by
  have hlt := h.lt
  obtain ⟨am, cm, rfl, -⟩ := h.mem.open
  obtain ⟨w1, hw1⟩ : ∃ w1, w1 = w.alloc (.cells #[.int .i64 op, .int .i64 kd, .int .i64 ka, .int .i64 kb, .int .u32 n] 133) := ⟨_, rfl⟩
  have hb1 : Below w.heap.size w w1 := by rw [hw1]; exact Fb.blw
  have hs1 : w1.heap.size = w.heap.size + 1 := by rw [hw1]; simp
  have c0 : (w1).cell? ⟨w.heap.size, 0, none⟩ = some (.int .i64 op) := by rw [hw1]; go_cell
  have c1 : (w1).cell? ⟨w.heap.size, 1, none⟩ = some (.int .i64 kd) := by rw [hw1]; go_cell
  have c2 : (w1).cell? ⟨w.heap.size, 2, none⟩ = some (.int .i64 ka) := by rw [hw1]; go_cell
  have c3 : (w1).cell? ⟨w.heap.size, 3, none⟩ = some (.int .i64 kb) := by rw [hw1]; go_cell
  have c4 : (w1).cell? ⟨w.heap.size, 4, none⟩ = some (.int .u32 n) := by rw [hw1]; go_cell
  have H1 := h.below hb1
  have HG1 : Hid (G7 rp w vo vs w1 vo vs) := Lib.hid (G7.below hb1)
  have hres : d.one ⟨op, kd, ka, kb, n⟩ steps = d.stop (u32 (d.get ka + n) - u32 (d.get ka + n) % 2) := by
    unfold RunD.one
    dsimp only
    rw [if_neg (by omega)]
    rw [if_neg (by omega)]
    rw [if_neg (by omega)]
    rw [if_pos hop]
    (try simp only [Int.toNat_natCast])
  rw [hres]
  clear hres
  have HH1 := Lib.hid H1
  have HWF := Lib.hid h.wf
  have HW1 := Lib.hid hw1
  have HGA := Lib.hid (get7_any H1 ka hka)
  obtain ⟨a, ha⟩ : ∃ a, a = d.get ka := ⟨_, rfl⟩
  have HUA : Hid (U32 a) := Lib.hid (by rw [ha]; exact get_u32 h.wf ka)
  rw [← ha] at HGA ⊢
  have HAE := Lib.hid ha
  clear ha
  subst hop
  clear h H1 hb1 hw1
  obtain ⟨q, hq⟩ : ∃ q, q = u32 (a + n) := ⟨_, rfl⟩
  rw [← hq]
  have huq : U32 q := by rw [hq]; exact u32_ok _
  have HSU := Lib.hid (fun W => sum7_any a n W HUA.out hn)
  rw [← hq] at HSU
  have hq2 : (q - q.tmod 2) % 4294967296 = q - q % 2 := by rw [Int.tmod_eq_emod_of_nonneg huq.1]; have := huq.1; have := huq.2; omega
  have HQ2 := Lib.hid hq2
  have HCC := Lib.hid (fun W (hb : Below w1.heap.size w1 W) => stop7_any (HH1.out.below hb) (q - q % 2) ⟨by have := huq.1; omega, by have := huq.2; omega⟩)
  have HUQ := Lib.hid huq
  clear hq hq2 huq
  go_enter Try.func80, Try.ntmps80
  go_upto_region 1 with (fail)
  rw [← HW1.out]
  have HGD := Lib.hid (fun nd => (get7_any (HH1.out.below (below_drewN (Below.refl _ w1) nd)) ka hka).mono (R' := fun e w' => e = .returned (.int .u32 (d.get ka)) ∧ w1.drewN nd = w') (fun e w' h => ⟨h.1, h.2.symm⟩))
  rw [← HAE.out] at HGD
  go_upto_region 12 with (fail)
  clear c0 c1 c3
  go_quiet (first | (go_at_call 109; exact quiet_left (HGD.out _)) | (go_at_call 81; exact quiet_more (HSU.out _)))
  go_wp2_with fail
  rw [HQ2.out]
  refine (HCC.out _ (below_drewN (Below.refl _ _) _)).mono ?_
  rintro e w9 ⟨rfl, h9, g9⟩
  go_wp2_with fail
  exact bodyPost_ret (results_none (by rfl) _ _ _) rfl ⟨rfl, _, _, _, h9, HG1.out.trans ((G7.below (below_drewN (Below.refl _ _) _)).trans g9)⟩
theorem one7_brk (h : R7 rp 34 60 w d vm vo vs) (op n steps : Int) (kd ka kb : Nat) (hkd : kd < 36) (hka : ka < 36) (hkb : kb < 36) (hn : U32 n) (hst : i64ok steps) (hds : 0 ≤ d.steps ∧ d.steps ≤ 100000) (hsl : d.stores.length ≤ 100000)  (hop : op = 6)  :
    Calls Try.prog 80 #[.pointer (some ⟨rp, 0, none⟩), .agg #[.int .i64 op, .int .i64 kd, .int .i64 ka, .int .i64 kb, .int .u32 n], .int .i64 steps] w fun e w' => e = .returned (.tuple #[]) ∧ ∃ vm' vo' vs', R7 rp 34 60 w' (d.one ⟨op, kd, ka, kb, n⟩ steps) vm' vo' vs' ∧ G7 rp w vo vs w' vo' vs' := by
  have hlt := h.lt
  obtain ⟨am, cm, rfl, -⟩ := h.mem.open
  obtain ⟨w1, hw1⟩ : ∃ w1, w1 = w.alloc (.cells #[.int .i64 op, .int .i64 kd, .int .i64 ka, .int .i64 kb, .int .u32 n] 133) := ⟨_, rfl⟩
  have hb1 : Below w.heap.size w w1 := by rw [hw1]; exact Fb.blw
  have hs1 : w1.heap.size = w.heap.size + 1 := by rw [hw1]; simp
  have c0 : (w1).cell? ⟨w.heap.size, 0, none⟩ = some (.int .i64 op) := by rw [hw1]; go_cell
  have c1 : (w1).cell? ⟨w.heap.size, 1, none⟩ = some (.int .i64 kd) := by rw [hw1]; go_cell
  have c2 : (w1).cell? ⟨w.heap.size, 2, none⟩ = some (.int .i64 ka) := by rw [hw1]; go_cell
  have c3 : (w1).cell? ⟨w.heap.size, 3, none⟩ = some (.int .i64 kb) := by rw [hw1]; go_cell
  have c4 : (w1).cell? ⟨w.heap.size, 4, none⟩ = some (.int .u32 n) := by rw [hw1]; go_cell
  have H1 := h.below hb1
  have HG1 : Hid (G7 rp w vo vs w1 vo vs) := Lib.hid (G7.below hb1)
  have hres : d.one ⟨op, kd, ka, kb, n⟩ steps = d.trap 6 := by
    unfold RunD.one
    dsimp only
    rw [if_neg (by omega)]
    rw [if_neg (by omega)]
    rw [if_neg (by omega)]
    rw [if_neg (by omega)]
    rw [if_pos hop]
  rw [hres]
  clear hres
  have HH1 := Lib.hid H1
  have HWF := Lib.hid h.wf
  have HW1 := Lib.hid hw1
  subst hop
  clear h H1 hb1 hw1
  have HCC := Lib.hid (trap7_any HH1.out 6 ⟨by omega, by omega⟩)
  go_enter Try.func80, Try.ntmps80
  go_upto_region 1 with (fail)
  rw [← HW1.out]
  go_wp2_with fail
  refine HCC.out.mono ?_
  rintro e w9 ⟨rfl, h9, g9⟩
  go_wp2_with fail
  first
    | exact bodyPost_ret (results_none (by rfl) _ _ _) rfl ⟨rfl, _, _, _, h9, HG1.out.trans g9⟩
    | (go_end0; exact ⟨rfl, _, _, _, h9, HG1.out.trans g9⟩)
theorem one7_if (h : R7 rp 34 60 w d vm vo vs) (op n steps : Int) (kd ka kb : Nat) (hkd : kd < 36) (hka : ka < 36) (hkb : kb < 36) (hn : U32 n) (hst : i64ok steps) (hds : 0 ≤ d.steps ∧ d.steps ≤ 100000) (hsl : d.stores.length ≤ 100000) (s : Int) (hop : op = 100 + s) (hs : 5 ≤ s ∧ s ≤ 10) :
    Calls Try.prog 80 #[.pointer (some ⟨rp, 0, none⟩), .agg #[.int .i64 op, .int .i64 kd, .int .i64 ka, .int .i64 kb, .int .u32 n], .int .i64 steps] w fun e w' => e = .returned (.tuple #[]) ∧ ∃ vm' vo' vs', R7 rp 34 60 w' (d.one ⟨op, kd, ka, kb, n⟩ steps) vm' vo' vs' ∧ G7 rp w vo vs w' vo' vs' := by
  have hlt := h.lt
  obtain ⟨am, cm, rfl, -⟩ := h.mem.open
  obtain ⟨w1, hw1⟩ : ∃ w1, w1 = w.alloc (.cells #[.int .i64 op, .int .i64 kd, .int .i64 ka, .int .i64 kb, .int .u32 n] 133) := ⟨_, rfl⟩
  have hb1 : Below w.heap.size w w1 := by rw [hw1]; exact Fb.blw
  have hs1 : w1.heap.size = w.heap.size + 1 := by rw [hw1]; simp
  have c0 : (w1).cell? ⟨w.heap.size, 0, none⟩ = some (.int .i64 op) := by rw [hw1]; go_cell
  have c1 : (w1).cell? ⟨w.heap.size, 1, none⟩ = some (.int .i64 kd) := by rw [hw1]; go_cell
  have c2 : (w1).cell? ⟨w.heap.size, 2, none⟩ = some (.int .i64 ka) := by rw [hw1]; go_cell
  have c3 : (w1).cell? ⟨w.heap.size, 3, none⟩ = some (.int .i64 kb) := by rw [hw1]; go_cell
  have c4 : (w1).cell? ⟨w.heap.size, 4, none⟩ = some (.int .u32 n) := by rw [hw1]; go_cell
  have H1 := h.below hb1
  have HG1 : Hid (G7 rp w vo vs w1 vo vs) := Lib.hid (G7.below hb1)
  obtain ⟨hm1, hm2⟩ := named_at 100 s (by omega) (by omega) (by omega)
  rw [← hop] at hm1 hm2
  have hres : d.one ⟨op, kd, ka, kb, n⟩ steps = (if holds s (d.get ka) (d.get kb) = true then d.stop n else d) := by
    unfold RunD.one
    dsimp only
    rw [if_neg (by omega)]
    rw [if_neg (by omega)]
    rw [if_neg (by omega)]
    rw [if_neg (by omega)]
    rw [if_neg (by omega)]
    rw [if_neg (by omega)]
    rw [hm2, hm1]
    rw [if_pos rfl]
    (try simp only [Int.toNat_natCast])
  rw [hres]
  clear hres
  have HH1 := Lib.hid H1
  have HWF := Lib.hid h.wf
  have HW1 := Lib.hid hw1
  have hw64 : wrap64 (op - s) = 100 := by unfold wrap64; omega
  have HMM := Lib.hid hm1
  have HW64 := Lib.hid hw64
  have a1 : (op == 1) = false := by simp; omega
  have d1 : decide (op = 1) = false := by simp; omega
  have a2 : (op == 2) = false := by simp; omega
  have d2 : decide (op = 2) = false := by simp; omega
  have a3 : (op == 3) = false := by simp; omega
  have d3 : decide (op = 3) = false := by simp; omega
  have a4 : (op == 4) = false := by simp; omega
  have d4 : decide (op = 4) = false := by simp; omega
  have a5 : (op == 5) = false := by simp; omega
  have d5 : decide (op = 5) = false := by simp; omega
  have a6 : (op == 6) = false := by simp; omega
  have d6 : decide (op = 6) = false := by simp; omega
  have HGA := Lib.hid (get7_any H1 ka hka)
  have HGB := Lib.hid (get7_any H1 kb hkb)
  obtain ⟨a, ha⟩ : ∃ a, a = d.get ka := ⟨_, rfl⟩
  obtain ⟨b, hb⟩ : ∃ b, b = d.get kb := ⟨_, rfl⟩
  have HUA : Hid (U32 a) := Lib.hid (by rw [ha]; exact get_u32 h.wf ka)
  have HUB : Hid (U32 b) := Lib.hid (by rw [hb]; exact get_u32 h.wf kb)
  rw [← ha] at HGA ⊢
  rw [← hb] at HGB
  (try rw [← hb])
  clear hop hm1 hm2 hw64 ha hb h H1 hb1 hw1
  obtain ⟨res, hres2⟩ : ∃ res, res = (if holds s a b = true then d.stop n else d) := ⟨_, rfl⟩
  rw [← hres2]
  have HRES := Lib.hid hres2
  clear hres2
  go_enter Try.func80, Try.ntmps80
  go_upto_region 1 with (fail)
  rw [← HW1.out]
  go_upto_region 24 with (fail)
  go_upto_region 25 with (fail)
  try rw [HMM.out]
  go_wp2_with fail
  refine HGA.out.mono ?_
  rintro e w2 ⟨rfl, rfl⟩
  go_wp2_with fail
  refine HGB.out.mono ?_
  rintro e w3 ⟨rfl, rfl⟩
  go_upto_region 28 with (fail)
  try rw [HW64.out]
  have HHD := Lib.hid (holds1_any s a b w3 HUA.out.1 HUA.out.2 HUB.out.1 HUB.out.2)
  have HST := Lib.hid (fun W (hb : Below w3.heap.size w3 W) => stop7_any (HH1.out.below hb) n hn)
  obtain ⟨hb, hhb⟩ : ∃ hb, hb = holds s a b := ⟨_, rfl⟩
  rw [← hhb] at HHD
  have HHB := Lib.hid hhb
  clear hhb
  go_wp2_with fail
  refine HHD.out.mono ?_
  rintro e w4 ⟨rfl, rfl⟩
  cases hb with
  | true =>
    go_wp2_with fail
    refine (HST.out _ (Below.refl _ _)).mono ?_
    rintro e w9 ⟨rfl, h9, g9⟩
    go_wp2_with fail
    go_end0
    refine ⟨rfl, .slice am d.m.length cm, vo, vs, ?_, HG1.out.trans g9⟩
    rw [HRES.out, ← HHB.out, if_pos rfl]
    exact h9
  | false =>
    go_wp2_with fail
    go_end0
    refine ⟨rfl, .slice am d.m.length cm, vo, vs, ?_, HG1.out⟩
    rw [HRES.out, ← HHB.out, if_neg (by simp)]
    exact HH1.out
theorem one7_load (h : R7 rp 34 60 w d vm vo vs) (op n steps : Int) (kd ka kb : Nat) (hkd : kd < 36) (hka : ka < 36) (hkb : kb < 36) (hn : U32 n) (hst : i64ok steps) (hds : 0 ≤ d.steps ∧ d.steps ≤ 100000) (hsl : d.stores.length ≤ 100000) (s : Int) (hop : op = 200 + s) (hs : 11 ≤ s ∧ s ≤ 15) :
    Calls Try.prog 80 #[.pointer (some ⟨rp, 0, none⟩), .agg #[.int .i64 op, .int .i64 kd, .int .i64 ka, .int .i64 kb, .int .u32 n], .int .i64 steps] w fun e w' => e = .returned (.tuple #[]) ∧ ∃ vm' vo' vs', R7 rp 34 60 w' (d.one ⟨op, kd, ka, kb, n⟩ steps) vm' vo' vs' ∧ G7 rp w vo vs w' vo' vs' := by
  have hlt := h.lt
  obtain ⟨am, cm, rfl, -⟩ := h.mem.open
  obtain ⟨w1, hw1⟩ : ∃ w1, w1 = w.alloc (.cells #[.int .i64 op, .int .i64 kd, .int .i64 ka, .int .i64 kb, .int .u32 n] 133) := ⟨_, rfl⟩
  have hb1 : Below w.heap.size w w1 := by rw [hw1]; exact Fb.blw
  have hs1 : w1.heap.size = w.heap.size + 1 := by rw [hw1]; simp
  have c0 : (w1).cell? ⟨w.heap.size, 0, none⟩ = some (.int .i64 op) := by rw [hw1]; go_cell
  have c1 : (w1).cell? ⟨w.heap.size, 1, none⟩ = some (.int .i64 kd) := by rw [hw1]; go_cell
  have c2 : (w1).cell? ⟨w.heap.size, 2, none⟩ = some (.int .i64 ka) := by rw [hw1]; go_cell
  have c3 : (w1).cell? ⟨w.heap.size, 3, none⟩ = some (.int .i64 kb) := by rw [hw1]; go_cell
  have c4 : (w1).cell? ⟨w.heap.size, 4, none⟩ = some (.int .u32 n) := by rw [hw1]; go_cell
  have H1 := h.below hb1
  have HG1 : Hid (G7 rp w vo vs w1 vo vs) := Lib.hid (G7.below hb1)
  obtain ⟨hm1, hm2⟩ := named_at 200 s (by omega) (by omega) (by omega)
  rw [← hop] at hm1 hm2
  have hres : d.one ⟨op, kd, ka, kb, n⟩ steps = (if mLoadOk d.m s (u32 (d.get ka + n)) = true then d.put kd (mLoad d.m s (u32 (d.get ka + n))) else d.trap 3) := by
    unfold RunD.one
    dsimp only
    rw [if_neg (by omega)]
    rw [if_neg (by omega)]
    rw [if_neg (by omega)]
    rw [if_neg (by omega)]
    rw [if_neg (by omega)]
    rw [if_neg (by omega)]
    rw [hm2, hm1]
    rw [if_neg (by omega)]
    rw [if_pos rfl]
    (try simp only [Int.toNat_natCast])
  rw [hres]
  clear hres
  have HH1 := Lib.hid H1
  have HWF := Lib.hid h.wf
  have HW1 := Lib.hid hw1
  have hw64 : wrap64 (op - s) = 200 := by unfold wrap64; omega
  have HMM := Lib.hid hm1
  have HW64 := Lib.hid hw64
  have a1 : (op == 1) = false := by simp; omega
  have d1 : decide (op = 1) = false := by simp; omega
  have a2 : (op == 2) = false := by simp; omega
  have d2 : decide (op = 2) = false := by simp; omega
  have a3 : (op == 3) = false := by simp; omega
  have d3 : decide (op = 3) = false := by simp; omega
  have a4 : (op == 4) = false := by simp; omega
  have d4 : decide (op = 4) = false := by simp; omega
  have a5 : (op == 5) = false := by simp; omega
  have d5 : decide (op = 5) = false := by simp; omega
  have a6 : (op == 6) = false := by simp; omega
  have d6 : decide (op = 6) = false := by simp; omega
  have HGA := Lib.hid (get7_any H1 ka hka)
  have HGB := Lib.hid (get7_any H1 kb hkb)
  obtain ⟨a, ha⟩ : ∃ a, a = d.get ka := ⟨_, rfl⟩
  obtain ⟨b, hb⟩ : ∃ b, b = d.get kb := ⟨_, rfl⟩
  have HUA : Hid (U32 a) := Lib.hid (by rw [ha]; exact get_u32 h.wf ka)
  have HUB : Hid (U32 b) := Lib.hid (by rw [hb]; exact get_u32 h.wf kb)
  rw [← ha] at HGA ⊢
  rw [← hb] at HGB
  (try rw [← hb])
  clear hop hm1 hm2 hw64 ha hb h H1 hb1 hw1
  obtain ⟨res, hres2⟩ : ∃ res, res = (if mLoadOk d.m s (u32 (a + n)) = true then d.put kd (mLoad d.m s (u32 (a + n))) else d.trap 3) := ⟨_, rfl⟩
  rw [← hres2]
  have HRES := Lib.hid hres2
  clear hres2
  go_enter Try.func80, Try.ntmps80
  go_upto_region 1 with (fail)
  rw [← HW1.out]
  go_upto_region 24 with (fail)
  go_upto_region 25 with (fail)
  try rw [HMM.out]
  go_wp2_with fail
  refine HGA.out.mono ?_
  rintro e w2 ⟨rfl, rfl⟩
  go_wp2_with fail
  refine HGB.out.mono ?_
  rintro e w3 ⟨rfl, rfl⟩
  go_upto_region 28 with (fail)
  try rw [HW64.out]
  obtain ⟨q, hq⟩ : ∃ q, q = u32 (a + n) := ⟨_, rfl⟩
  have huq : U32 q := by rw [hq]; exact u32_ok _
  have HSU := Lib.hid (fun W => sum7_any a n W HUA.out hn)
  have HLD := Lib.hid (fun nd => load3_any (.slice am d.m.length cm) d.m s q (w3.drewN nd) (HH1.out.below (below_drewN (Below.refl _ w3) nd)).mem huq HWF.out.m.getD)
  obtain ⟨x, hx⟩ : ∃ x, x = mLoad d.m s q := ⟨_, rfl⟩
  obtain ⟨ok, hok⟩ : ∃ ok, ok = mLoadOk d.m s q := ⟨_, rfl⟩
  have hux : U32 x := by rw [hx]; exact mLoad_u d.m s q hs huq HWF.out.m.getD
  have HPT := Lib.hid (fun W (hb : Below w3.heap.size w3 W) => put7_any (HH1.out.below hb) kd hkd x hux)
  have HTR := Lib.hid (fun W (hb : Below w3.heap.size w3 W) => trap7_any (HH1.out.below hb) 3 ⟨by omega, by omega⟩)
  rw [← hq] at HSU
  rw [← hx, ← hok] at HLD
  have c37 := HH1.out.at_.get ((r7_tail (vm := .slice am d.m.length cm) (vo := vo) (vs := vs) HWF.out.h.len 0).trans (show (r7tail d (.slice am d.m.length cm) vo vs)[0]? = some (.slice am d.m.length cm) from rfl))
  simp only [Nat.zero_add, Nat.reduceAdd] at c37
  have HQX := Lib.hid (And.intro hq (And.intro hx hok))
  clear hq hx hok huq hux c0 c2 c3
  go_upto_region 32 with (fail)
  go_quiet (first | (go_at_call 76; exact quiet_left (HLD.out _)) | (go_at_call 81; exact quiet_more (HSU.out _)))
  cases ok with
  | true =>
    go_wp2_with fail
    refine (HPT.out _ (below_drewN (Below.refl _ _) _)).mono ?_
    rintro e w9 ⟨rfl, h9, g9⟩
    go_wp2_with fail
    go_end0
    refine ⟨rfl, .slice am d.m.length cm, vo, vs, ?_, HG1.out.trans ((G7.below (below_drewN (Below.refl _ _) _)).trans g9)⟩
    rw [HRES.out, ← HQX.out.1, ← HQX.out.2.2, if_pos rfl, ← HQX.out.2.1]
    exact h9
  | false =>
    go_wp2_with fail
    refine (HTR.out _ (below_drewN (Below.refl _ _) _)).mono ?_
    rintro e w9 ⟨rfl, h9, g9⟩
    go_wp2_with fail
    refine bodyPost_ret (results_none (by rfl) _ _ _) rfl ⟨rfl, .slice am d.m.length cm, vo, vs, ?_, HG1.out.trans ((G7.below (below_drewN (Below.refl _ _) _)).trans g9)⟩
    rw [HRES.out, ← HQX.out.1, ← HQX.out.2.2, if_neg (by simp)]
    exact h9
theorem one7_alu (h : R7 rp 34 60 w d vm vo vs) (op n steps : Int) (kd ka kb : Nat) (hkd : kd < 36) (hka : ka < 36) (hkb : kb < 36) (hn : U32 n) (hst : i64ok steps) (hds : 0 ≤ d.steps ∧ d.steps ≤ 100000) (hsl : d.stores.length ≤ 100000) (s : Int) (hop : op = 400 + s) (hs : 28 ≤ s ∧ s ≤ 45) :
    Calls Try.prog 80 #[.pointer (some ⟨rp, 0, none⟩), .agg #[.int .i64 op, .int .i64 kd, .int .i64 ka, .int .i64 kb, .int .u32 n], .int .i64 steps] w fun e w' => e = .returned (.tuple #[]) ∧ ∃ vm' vo' vs', R7 rp 34 60 w' (d.one ⟨op, kd, ka, kb, n⟩ steps) vm' vo' vs' ∧ G7 rp w vo vs w' vo' vs' := by
  have hlt := h.lt
  obtain ⟨am, cm, rfl, -⟩ := h.mem.open
  obtain ⟨w1, hw1⟩ : ∃ w1, w1 = w.alloc (.cells #[.int .i64 op, .int .i64 kd, .int .i64 ka, .int .i64 kb, .int .u32 n] 133) := ⟨_, rfl⟩
  have hb1 : Below w.heap.size w w1 := by rw [hw1]; exact Fb.blw
  have hs1 : w1.heap.size = w.heap.size + 1 := by rw [hw1]; simp
  have c0 : (w1).cell? ⟨w.heap.size, 0, none⟩ = some (.int .i64 op) := by rw [hw1]; go_cell
  have c1 : (w1).cell? ⟨w.heap.size, 1, none⟩ = some (.int .i64 kd) := by rw [hw1]; go_cell
  have c2 : (w1).cell? ⟨w.heap.size, 2, none⟩ = some (.int .i64 ka) := by rw [hw1]; go_cell
  have c3 : (w1).cell? ⟨w.heap.size, 3, none⟩ = some (.int .i64 kb) := by rw [hw1]; go_cell
  have c4 : (w1).cell? ⟨w.heap.size, 4, none⟩ = some (.int .u32 n) := by rw [hw1]; go_cell
  have H1 := h.below hb1
  have HG1 : Hid (G7 rp w vo vs w1 vo vs) := Lib.hid (G7.below hb1)
  obtain ⟨hm1, hm2⟩ := named_at 400 s (by omega) (by omega) (by omega)
  rw [← hop] at hm1 hm2
  have hres : d.one ⟨op, kd, ka, kb, n⟩ steps = d.put kd (alu s (d.get ka) (d.get kb)) := by
    unfold RunD.one
    dsimp only
    rw [if_neg (by omega)]
    rw [if_neg (by omega)]
    rw [if_neg (by omega)]
    rw [if_neg (by omega)]
    rw [if_neg (by omega)]
    rw [if_neg (by omega)]
    rw [hm2, hm1]
    rw [if_neg (by omega)]
    rw [if_neg (by omega)]
    rw [if_neg (by omega)]
    rw [if_pos rfl]
    (try simp only [Int.toNat_natCast])
  rw [hres]
  clear hres
  have HH1 := Lib.hid H1
  have HWF := Lib.hid h.wf
  have HW1 := Lib.hid hw1
  have hw64 : wrap64 (op - s) = 400 := by unfold wrap64; omega
  have HMM := Lib.hid hm1
  have HW64 := Lib.hid hw64
  have a1 : (op == 1) = false := by simp; omega
  have d1 : decide (op = 1) = false := by simp; omega
  have a2 : (op == 2) = false := by simp; omega
  have d2 : decide (op = 2) = false := by simp; omega
  have a3 : (op == 3) = false := by simp; omega
  have d3 : decide (op = 3) = false := by simp; omega
  have a4 : (op == 4) = false := by simp; omega
  have d4 : decide (op = 4) = false := by simp; omega
  have a5 : (op == 5) = false := by simp; omega
  have d5 : decide (op = 5) = false := by simp; omega
  have a6 : (op == 6) = false := by simp; omega
  have d6 : decide (op = 6) = false := by simp; omega
  have HGA := Lib.hid (get7_any H1 ka hka)
  have HGB := Lib.hid (get7_any H1 kb hkb)
  obtain ⟨a, ha⟩ : ∃ a, a = d.get ka := ⟨_, rfl⟩
  obtain ⟨b, hb⟩ : ∃ b, b = d.get kb := ⟨_, rfl⟩
  have HUA : Hid (U32 a) := Lib.hid (by rw [ha]; exact get_u32 h.wf ka)
  have HUB : Hid (U32 b) := Lib.hid (by rw [hb]; exact get_u32 h.wf kb)
  rw [← ha] at HGA ⊢
  rw [← hb] at HGB
  (try rw [← hb])
  clear hop hm1 hm2 hw64 ha hb h H1 hb1 hw1
  go_enter Try.func80, Try.ntmps80
  go_upto_region 1 with (fail)
  rw [← HW1.out]
  go_upto_region 24 with (fail)
  go_upto_region 25 with (fail)
  try rw [HMM.out]
  go_wp2_with fail
  refine HGA.out.mono ?_
  rintro e w2 ⟨rfl, rfl⟩
  go_wp2_with fail
  refine HGB.out.mono ?_
  rintro e w3 ⟨rfl, rfl⟩
  go_upto_region 28 with (fail)
  try rw [HW64.out]
  have HAL := Lib.hid (alu1_any s a b w3 HUA.out.1 HUA.out.2 HUB.out.1 HUB.out.2)
  have HPT := Lib.hid (fun W (hb : Below w3.heap.size w3 W) => put7_any (HH1.out.below hb) kd hkd (alu s a b) (alu_lo s a b HUA.out HUB.out))
  go_wp2_with fail
  refine HAL.out.mono ?_
  rintro e w4 ⟨rfl, nd, hw4⟩
  have hb4 : Below w3.heap.size w3 w4 := by rw [hw4]; exact below_drewN (Below.refl _ _) nd
  have m1 := (hb4.cell (p := ⟨w.heap.size, 1, none⟩) (by show w.heap.size < _; omega)).trans c1
  have HPT4 := Lib.hid (HPT.out w4 hb4)
  have HG4 : Hid (G7 rp w3 vo vs w4 vo vs) := Lib.hid (G7.below hb4)
  clear hw4 hb4 c0 c1 c2 c3 c4
  go_wp2_with fail
  refine HPT4.out.mono ?_
  rintro e w9 ⟨rfl, h9, g9⟩
  go_wp2_with fail
  first
    | exact bodyPost_ret (results_none (by rfl) _ _ _) rfl ⟨rfl, _, _, _, h9, HG1.out.trans (HG4.out.trans g9)⟩
    | (go_end0; exact ⟨rfl, _, _, _, h9, HG1.out.trans (HG4.out.trans g9)⟩)
theorem one7_alun (h : R7 rp 34 60 w d vm vo vs) (op n steps : Int) (kd ka kb : Nat) (hkd : kd < 36) (hka : ka < 36) (hkb : kb < 36) (hn : U32 n) (hst : i64ok steps) (hds : 0 ≤ d.steps ∧ d.steps ≤ 100000) (hsl : d.stores.length ≤ 100000) (s : Int) (hop : op = 500 + s) (hs : 28 ≤ s ∧ s ≤ 45) :
    Calls Try.prog 80 #[.pointer (some ⟨rp, 0, none⟩), .agg #[.int .i64 op, .int .i64 kd, .int .i64 ka, .int .i64 kb, .int .u32 n], .int .i64 steps] w fun e w' => e = .returned (.tuple #[]) ∧ ∃ vm' vo' vs', R7 rp 34 60 w' (d.one ⟨op, kd, ka, kb, n⟩ steps) vm' vo' vs' ∧ G7 rp w vo vs w' vo' vs' := by
  have hlt := h.lt
  obtain ⟨am, cm, rfl, -⟩ := h.mem.open
  obtain ⟨w1, hw1⟩ : ∃ w1, w1 = w.alloc (.cells #[.int .i64 op, .int .i64 kd, .int .i64 ka, .int .i64 kb, .int .u32 n] 133) := ⟨_, rfl⟩
  have hb1 : Below w.heap.size w w1 := by rw [hw1]; exact Fb.blw
  have hs1 : w1.heap.size = w.heap.size + 1 := by rw [hw1]; simp
  have c0 : (w1).cell? ⟨w.heap.size, 0, none⟩ = some (.int .i64 op) := by rw [hw1]; go_cell
  have c1 : (w1).cell? ⟨w.heap.size, 1, none⟩ = some (.int .i64 kd) := by rw [hw1]; go_cell
  have c2 : (w1).cell? ⟨w.heap.size, 2, none⟩ = some (.int .i64 ka) := by rw [hw1]; go_cell
  have c3 : (w1).cell? ⟨w.heap.size, 3, none⟩ = some (.int .i64 kb) := by rw [hw1]; go_cell
  have c4 : (w1).cell? ⟨w.heap.size, 4, none⟩ = some (.int .u32 n) := by rw [hw1]; go_cell
  have H1 := h.below hb1
  have HG1 : Hid (G7 rp w vo vs w1 vo vs) := Lib.hid (G7.below hb1)
  obtain ⟨hm1, hm2⟩ := named_at 500 s (by omega) (by omega) (by omega)
  rw [← hop] at hm1 hm2
  have hres : d.one ⟨op, kd, ka, kb, n⟩ steps = d.put kd (alu s (d.get ka) n) := by
    unfold RunD.one
    dsimp only
    rw [if_neg (by omega)]
    rw [if_neg (by omega)]
    rw [if_neg (by omega)]
    rw [if_neg (by omega)]
    rw [if_neg (by omega)]
    rw [if_neg (by omega)]
    rw [hm2, hm1]
    rw [if_neg (by omega)]
    rw [if_neg (by omega)]
    rw [if_neg (by omega)]
    rw [if_neg (by omega)]
    rw [if_pos rfl]
    (try simp only [Int.toNat_natCast])
  rw [hres]
  clear hres
  have HH1 := Lib.hid H1
  have HWF := Lib.hid h.wf
  have HW1 := Lib.hid hw1
  have hw64 : wrap64 (op - s) = 500 := by unfold wrap64; omega
  have HMM := Lib.hid hm1
  have HW64 := Lib.hid hw64
  have a1 : (op == 1) = false := by simp; omega
  have d1 : decide (op = 1) = false := by simp; omega
  have a2 : (op == 2) = false := by simp; omega
  have d2 : decide (op = 2) = false := by simp; omega
  have a3 : (op == 3) = false := by simp; omega
  have d3 : decide (op = 3) = false := by simp; omega
  have a4 : (op == 4) = false := by simp; omega
  have d4 : decide (op = 4) = false := by simp; omega
  have a5 : (op == 5) = false := by simp; omega
  have d5 : decide (op = 5) = false := by simp; omega
  have a6 : (op == 6) = false := by simp; omega
  have d6 : decide (op = 6) = false := by simp; omega
  have HGA := Lib.hid (get7_any H1 ka hka)
  have HGB := Lib.hid (get7_any H1 kb hkb)
  obtain ⟨a, ha⟩ : ∃ a, a = d.get ka := ⟨_, rfl⟩
  obtain ⟨b, hb⟩ : ∃ b, b = d.get kb := ⟨_, rfl⟩
  have HUA : Hid (U32 a) := Lib.hid (by rw [ha]; exact get_u32 h.wf ka)
  have HUB : Hid (U32 b) := Lib.hid (by rw [hb]; exact get_u32 h.wf kb)
  rw [← ha] at HGA ⊢
  rw [← hb] at HGB
  (try rw [← hb])
  clear hop hm1 hm2 hw64 ha hb h H1 hb1 hw1
  go_enter Try.func80, Try.ntmps80
  go_upto_region 1 with (fail)
  rw [← HW1.out]
  go_upto_region 24 with (fail)
  go_upto_region 25 with (fail)
  try rw [HMM.out]
  go_wp2_with fail
  refine HGA.out.mono ?_
  rintro e w2 ⟨rfl, rfl⟩
  go_wp2_with fail
  refine HGB.out.mono ?_
  rintro e w3 ⟨rfl, rfl⟩
  go_upto_region 28 with (fail)
  try rw [HW64.out]
  have HAL := Lib.hid (alu1_any s a n w3 HUA.out.1 HUA.out.2 hn.1 hn.2)
  have HPT := Lib.hid (fun W (hb : Below w3.heap.size w3 W) => put7_any (HH1.out.below hb) kd hkd (alu s a n) (alu_lo s a n HUA.out hn))
  go_wp2_with fail
  refine HAL.out.mono ?_
  rintro e w4 ⟨rfl, nd, hw4⟩
  have hb4 : Below w3.heap.size w3 w4 := by rw [hw4]; exact below_drewN (Below.refl _ _) nd
  have m1 := (hb4.cell (p := ⟨w.heap.size, 1, none⟩) (by show w.heap.size < _; omega)).trans c1
  have HPT4 := Lib.hid (HPT.out w4 hb4)
  have HG4 : Hid (G7 rp w3 vo vs w4 vo vs) := Lib.hid (G7.below hb4)
  clear hw4 hb4 c0 c1 c2 c3 c4
  go_wp2_with fail
  refine HPT4.out.mono ?_
  rintro e w9 ⟨rfl, h9, g9⟩
  go_wp2_with fail
  first
    | exact bodyPost_ret (results_none (by rfl) _ _ _) rfl ⟨rfl, _, _, _, h9, HG1.out.trans (HG4.out.trans g9)⟩
    | (go_end0; exact ⟨rfl, _, _, _, h9, HG1.out.trans (HG4.out.trans g9)⟩)
theorem one7_atom (h : R7 rp 34 60 w d vm vo vs) (op n steps : Int) (kd ka kb : Nat) (hkd : kd < 36) (hka : ka < 36) (hkb : kb < 36) (hn : U32 n) (hst : i64ok steps) (hds : 0 ≤ d.steps ∧ d.steps ≤ 100000) (hsl : d.stores.length ≤ 100000) (s : Int) (hop : op = 600 + s) (hs : 46 ≤ s ∧ s ≤ 56) :
    Calls Try.prog 80 #[.pointer (some ⟨rp, 0, none⟩), .agg #[.int .i64 op, .int .i64 kd, .int .i64 ka, .int .i64 kb, .int .u32 n], .int .i64 steps] w fun e w' => e = .returned (.tuple #[]) ∧ ∃ vm' vo' vs', R7 rp 34 60 w' (d.one ⟨op, kd, ka, kb, n⟩ steps) vm' vo' vs' ∧ G7 rp w vo vs w' vo' vs' := by
  have hlt := h.lt
  obtain ⟨am, cm, rfl, -⟩ := h.mem.open
  obtain ⟨w1, hw1⟩ : ∃ w1, w1 = w.alloc (.cells #[.int .i64 op, .int .i64 kd, .int .i64 ka, .int .i64 kb, .int .u32 n] 133) := ⟨_, rfl⟩
  have hb1 : Below w.heap.size w w1 := by rw [hw1]; exact Fb.blw
  have hs1 : w1.heap.size = w.heap.size + 1 := by rw [hw1]; simp
  have c0 : (w1).cell? ⟨w.heap.size, 0, none⟩ = some (.int .i64 op) := by rw [hw1]; go_cell
  have c1 : (w1).cell? ⟨w.heap.size, 1, none⟩ = some (.int .i64 kd) := by rw [hw1]; go_cell
  have c2 : (w1).cell? ⟨w.heap.size, 2, none⟩ = some (.int .i64 ka) := by rw [hw1]; go_cell
  have c3 : (w1).cell? ⟨w.heap.size, 3, none⟩ = some (.int .i64 kb) := by rw [hw1]; go_cell
  have c4 : (w1).cell? ⟨w.heap.size, 4, none⟩ = some (.int .u32 n) := by rw [hw1]; go_cell
  have H1 := h.below hb1
  have HG1 : Hid (G7 rp w vo vs w1 vo vs) := Lib.hid (G7.below hb1)
  obtain ⟨hm1, hm2⟩ := named_at 600 s (by omega) (by omega) (by omega)
  rw [← hop] at hm1 hm2
  have hres : d.one ⟨op, kd, ka, kb, n⟩ steps = d.atom s kd ka kb := by
    unfold RunD.one
    dsimp only
    rw [if_neg (by omega)]
    rw [if_neg (by omega)]
    rw [if_neg (by omega)]
    rw [if_neg (by omega)]
    rw [if_neg (by omega)]
    rw [if_neg (by omega)]
    rw [hm2, hm1]
    rw [if_neg (by omega)]
    rw [if_neg (by omega)]
    rw [if_neg (by omega)]
    rw [if_neg (by omega)]
    rw [if_neg (by omega)]
    rw [if_pos rfl]
    (try simp only [Int.toNat_natCast])
  rw [hres]
  clear hres
  have HH1 := Lib.hid H1
  have HWF := Lib.hid h.wf
  have HW1 := Lib.hid hw1
  have hw64 : wrap64 (op - s) = 600 := by unfold wrap64; omega
  have HMM := Lib.hid hm1
  have HW64 := Lib.hid hw64
  have a1 : (op == 1) = false := by simp; omega
  have d1 : decide (op = 1) = false := by simp; omega
  have a2 : (op == 2) = false := by simp; omega
  have d2 : decide (op = 2) = false := by simp; omega
  have a3 : (op == 3) = false := by simp; omega
  have d3 : decide (op = 3) = false := by simp; omega
  have a4 : (op == 4) = false := by simp; omega
  have d4 : decide (op = 4) = false := by simp; omega
  have a5 : (op == 5) = false := by simp; omega
  have d5 : decide (op = 5) = false := by simp; omega
  have a6 : (op == 6) = false := by simp; omega
  have d6 : decide (op = 6) = false := by simp; omega
  have HGA := Lib.hid (get7_any H1 ka hka)
  have HGB := Lib.hid (get7_any H1 kb hkb)
  obtain ⟨a, ha⟩ : ∃ a, a = d.get ka := ⟨_, rfl⟩
  obtain ⟨b, hb⟩ : ∃ b, b = d.get kb := ⟨_, rfl⟩
  have HUA : Hid (U32 a) := Lib.hid (by rw [ha]; exact get_u32 h.wf ka)
  have HUB : Hid (U32 b) := Lib.hid (by rw [hb]; exact get_u32 h.wf kb)
  rw [← ha] at HGA
  rw [← hb] at HGB
  clear hop hm1 hm2 hw64 ha hb h H1 hb1 hw1
  go_enter Try.func80, Try.ntmps80
  go_upto_region 1 with (fail)
  rw [← HW1.out]
  go_upto_region 24 with (fail)
  go_upto_region 25 with (fail)
  try rw [HMM.out]
  go_wp2_with fail
  refine HGA.out.mono ?_
  rintro e w2 ⟨rfl, rfl⟩
  go_wp2_with fail
  refine HGB.out.mono ?_
  rintro e w3 ⟨rfl, rfl⟩
  go_upto_region 28 with (fail)
  try rw [HW64.out]
  have HAT := Lib.hid (atom7_any HH1.out s op n kd ka kb hkd hka hkb hsl hs)
  go_wp2_with fail
  refine HAT.out.mono ?_
  rintro e w9 ⟨rfl, vm9, vs9, h9, g9⟩
  go_wp2_with fail
  first
    | exact bodyPost_ret (results_none (by rfl) _ _ _) rfl ⟨rfl, _, _, _, h9, HG1.out.trans g9⟩
    | (go_end0; exact ⟨rfl, _, _, _, h9, HG1.out.trans g9⟩)
end
end Go.Proofs.Ytlfnddmncbkjaab.W
namespace Go.Proofs.Ytlfnddmncbkjaab.Fb
open Go.RowKit
theorem storeOk_ne {l : List Int} {op a : Int} (h : mStoreOk l op a = true) (ha : U32 a) : l ≠ [] := by
  intro e
  subst e
  have h2 := h
  simp [mStoreOk, there, stores] at h2
  have := ha.1
  have h3 : 0 < msize op := by
    have : op = 16 ∨ op = 17 ∨ op = 18 := by omega
    rcases this with rfl | rfl | rfl <;> decide
  omega
end Go.Proofs.Ytlfnddmncbkjaab.Fb
namespace Go.Proofs.Ytlfnddmncbkjaab.W
open Go.RowKit Fb
section
variable {rp : Nat} {w : World} {d : RunD} {vm vo vs : Value}
theorem one7_store_no (h : R7 rp 34 60 w d vm vo vs) (op n steps : Int) (kd ka kb : Nat) (hkd : kd < 36) (hka : ka < 36) (hkb : kb < 36) (hn : U32 n) (hst : i64ok steps) (hds : 0 ≤ d.steps ∧ d.steps ≤ 100000) (hsl : d.stores.length ≤ 100000) (s : Int) (hop : op = 300 + s) (hs : 16 ≤ s ∧ s ≤ 18) (hok : mStoreOk d.m s (u32 (d.get ka + n)) = false) :
    Calls Try.prog 80 #[.pointer (some ⟨rp, 0, none⟩), .agg #[.int .i64 op, .int .i64 kd, .int .i64 ka, .int .i64 kb, .int .u32 n], .int .i64 steps] w fun e w' => e = .returned (.tuple #[]) ∧ ∃ vm' vo' vs', R7 rp 34 60 w' (d.one ⟨op, kd, ka, kb, n⟩ steps) vm' vo' vs' ∧ G7 rp w vo vs w' vo' vs' := by
  have hlt := h.lt
  obtain ⟨am, cm, rfl, -⟩ := h.mem.open
  obtain ⟨w1, hw1⟩ : ∃ w1, w1 = w.alloc (.cells #[.int .i64 op, .int .i64 kd, .int .i64 ka, .int .i64 kb, .int .u32 n] 133) := ⟨_, rfl⟩
  have hb1 : Below w.heap.size w w1 := by rw [hw1]; exact Fb.blw
  have hs1 : w1.heap.size = w.heap.size + 1 := by rw [hw1]; simp
  have c0 : (w1).cell? ⟨w.heap.size, 0, none⟩ = some (.int .i64 op) := by rw [hw1]; go_cell
  have c1 : (w1).cell? ⟨w.heap.size, 1, none⟩ = some (.int .i64 kd) := by rw [hw1]; go_cell
  have c2 : (w1).cell? ⟨w.heap.size, 2, none⟩ = some (.int .i64 ka) := by rw [hw1]; go_cell
  have c3 : (w1).cell? ⟨w.heap.size, 3, none⟩ = some (.int .i64 kb) := by rw [hw1]; go_cell
  have c4 : (w1).cell? ⟨w.heap.size, 4, none⟩ = some (.int .u32 n) := by rw [hw1]; go_cell
  have H1 := h.below hb1
  have HG1 : Hid (G7 rp w vo vs w1 vo vs) := Lib.hid (G7.below hb1)
  obtain ⟨hm1, hm2⟩ := named_at 300 s (by omega) (by omega) (by omega)
  rw [← hop] at hm1 hm2
  have hres : d.one ⟨op, kd, ka, kb, n⟩ steps = d.trap 4 := by
    unfold RunD.one
    dsimp only
    rw [if_neg (by omega)]
    rw [if_neg (by omega)]
    rw [if_neg (by omega)]
    rw [if_neg (by omega)]
    rw [if_neg (by omega)]
    rw [if_neg (by omega)]
    rw [hm2, hm1]
    rw [if_neg (by omega)]
    rw [if_neg (by omega)]
    rw [if_pos rfl]
    simp only [Int.toNat_natCast]
    rw [if_neg (by rw [hok]; simp)]
  rw [hres]
  clear hres
  have HH1 := Lib.hid H1
  have HWF := Lib.hid h.wf
  have HW1 := Lib.hid hw1
  have hw64 : wrap64 (op - s) = 300 := by unfold wrap64; omega
  have HMM := Lib.hid hm1
  have HW64 := Lib.hid hw64
  have a1 : (op == 1) = false := by simp; omega
  have d1 : decide (op = 1) = false := by simp; omega
  have a2 : (op == 2) = false := by simp; omega
  have d2 : decide (op = 2) = false := by simp; omega
  have a3 : (op == 3) = false := by simp; omega
  have d3 : decide (op = 3) = false := by simp; omega
  have a4 : (op == 4) = false := by simp; omega
  have d4 : decide (op = 4) = false := by simp; omega
  have a5 : (op == 5) = false := by simp; omega
  have d5 : decide (op = 5) = false := by simp; omega
  have a6 : (op == 6) = false := by simp; omega
  have d6 : decide (op = 6) = false := by simp; omega
  have HGA := Lib.hid (get7_any H1 ka hka)
  have HGB := Lib.hid (get7_any H1 kb hkb)
  obtain ⟨a, ha⟩ : ∃ a, a = d.get ka := ⟨_, rfl⟩
  obtain ⟨b, hb⟩ : ∃ b, b = d.get kb := ⟨_, rfl⟩
  have HUA : Hid (U32 a) := Lib.hid (by rw [ha]; exact get_u32 h.wf ka)
  have HUB : Hid (U32 b) := Lib.hid (by rw [hb]; exact get_u32 h.wf kb)
  rw [← ha] at HGA hok
  (try rw [← ha])
  rw [← hb] at HGB
  (try rw [← hb])
  clear hop hm1 hm2 hw64 ha hb h H1 hb1 hw1
  go_enter Try.func80, Try.ntmps80
  go_upto_region 1 with (fail)
  rw [← HW1.out]
  go_upto_region 24 with (fail)
  go_upto_region 25 with (fail)
  try rw [HMM.out]
  go_wp2_with fail
  refine HGA.out.mono ?_
  rintro e w2 ⟨rfl, rfl⟩
  go_wp2_with fail
  refine HGB.out.mono ?_
  rintro e w3 ⟨rfl, rfl⟩
  go_upto_region 28 with (fail)
  try rw [HW64.out]
  obtain ⟨q, hq⟩ : ∃ q, q = Fb.u32 (a + n) := ⟨_, rfl⟩
  have huq : U32 q := by rw [hq]; exact u32_ok _
  have HSU := Lib.hid (sum7_any a n w3 HUA.out hn)
  rw [← hq] at HSU hok
  clear hq
  have HOK := Lib.hid hok
  have HUQ := Lib.hid huq
  clear hok huq
  go_upto_region 37 with (fail)
  go_wp2_with fail
  refine HSU.out.mono ?_
  rintro e w4 ⟨rfl, nd, hw4⟩
  have hb4 : Below w3.heap.size w3 w4 := by rw [hw4]; exact below_drewN (Below.refl _ _) nd
  have H4 := Lib.hid (HH1.out.below hb4)
  have HG4 : Hid (G7 rp w3 vo vs w4 vo vs) := Lib.hid (G7.below hb4)
  have y37 := H4.out.at_.get ((r7_tail (vm := .slice am d.m.length cm) (vo := vo) (vs := vs) HWF.out.h.len 0).trans (show (r7tail d (.slice am d.m.length cm) vo vs)[0]? = some (.slice am d.m.length cm) from rfl))
  have z37 := H4.out.frz 37
  simp only [Nat.zero_add, Nat.reduceAdd] at y37
  have hlm := HWF.out.mlen
  have hlt4 := H4.out.lt
  clear hw4 hb4 c0 c1 c2 c3 c4
  have HST := Lib.hid (store3_any (.slice am d.m.length cm) d.m s q b w4 H4.out.mem HUQ.out HUB.out (by omega))
  rw [HOK.out] at HST
  go_wp2_with fail
  refine HST.out.mono ?_
  rintro e w5 ⟨⟨v5, rfl, h5v⟩, hb5⟩
  obtain ⟨a5, c5, rfl, -⟩ := h5v.open
  have HTR := Lib.hid (trap7_any (H4.out.below hb5) 4 ⟨by omega, by omega⟩)
  have HG5 : Hid (G7 rp w3 vo vs w5 vo vs) := Lib.hid (HG4.out.trans (G7.below hb5))
  clear h5v hb5 y37 z37
  go_wp2_with fail
  refine HTR.out.mono ?_
  rintro e w9 ⟨rfl, h9, g9⟩
  go_wp2_with fail
  exact bodyPost_ret (results_none (by rfl) _ _ _) rfl ⟨rfl, _, _, _, h9, HG1.out.trans (HG5.out.trans g9)⟩
theorem one7_store_yes (h : R7 rp 34 60 w d vm vo vs) (op n steps : Int) (kd ka kb : Nat) (hkd : kd < 36) (hka : ka < 36) (hkb : kb < 36) (hn : U32 n) (hst : i64ok steps) (hds : 0 ≤ d.steps ∧ d.steps ≤ 100000) (hsl : d.stores.length ≤ 100000) (s : Int) (hop : op = 300 + s) (hs : 16 ≤ s ∧ s ≤ 18) (hok : mStoreOk d.m s (u32 (d.get ka + n)) = true) :
    Calls Try.prog 80 #[.pointer (some ⟨rp, 0, none⟩), .agg #[.int .i64 op, .int .i64 kd, .int .i64 ka, .int .i64 kb, .int .u32 n], .int .i64 steps] w fun e w' => e = .returned (.tuple #[]) ∧ ∃ vm' vo' vs', R7 rp 34 60 w' (d.one ⟨op, kd, ka, kb, n⟩ steps) vm' vo' vs' ∧ G7 rp w vo vs w' vo' vs' := by
  have hlt := h.lt
  obtain ⟨am, cm, rfl, -⟩ := h.mem.open
  obtain ⟨w1, hw1⟩ : ∃ w1, w1 = w.alloc (.cells #[.int .i64 op, .int .i64 kd, .int .i64 ka, .int .i64 kb, .int .u32 n] 133) := ⟨_, rfl⟩
  have hb1 : Below w.heap.size w w1 := by rw [hw1]; exact Fb.blw
  have hs1 : w1.heap.size = w.heap.size + 1 := by rw [hw1]; simp
  have c0 : (w1).cell? ⟨w.heap.size, 0, none⟩ = some (.int .i64 op) := by rw [hw1]; go_cell
  have c1 : (w1).cell? ⟨w.heap.size, 1, none⟩ = some (.int .i64 kd) := by rw [hw1]; go_cell
  have c2 : (w1).cell? ⟨w.heap.size, 2, none⟩ = some (.int .i64 ka) := by rw [hw1]; go_cell
  have c3 : (w1).cell? ⟨w.heap.size, 3, none⟩ = some (.int .i64 kb) := by rw [hw1]; go_cell
  have c4 : (w1).cell? ⟨w.heap.size, 4, none⟩ = some (.int .u32 n) := by rw [hw1]; go_cell
  have H1 := h.below hb1
  have HG1 : Hid (G7 rp w vo vs w1 vo vs) := Lib.hid (G7.below hb1)
  obtain ⟨hm1, hm2⟩ := named_at 300 s (by omega) (by omega) (by omega)
  rw [← hop] at hm1 hm2
  have hres : d.one ⟨op, kd, ka, kb, n⟩ steps = (d.mem s (u32 (d.get ka + n)) (d.get kb)).stored (u32 (d.get ka + n)) (msize s).toNat := by
    unfold RunD.one
    dsimp only
    rw [if_neg (by omega)]
    rw [if_neg (by omega)]
    rw [if_neg (by omega)]
    rw [if_neg (by omega)]
    rw [if_neg (by omega)]
    rw [if_neg (by omega)]
    rw [hm2, hm1]
    rw [if_neg (by omega)]
    rw [if_neg (by omega)]
    rw [if_pos rfl]
    simp only [Int.toNat_natCast]
    rw [if_pos hok]
  rw [hres]
  clear hres
  have HH1 := Lib.hid H1
  have HWF := Lib.hid h.wf
  have HW1 := Lib.hid hw1
  have hw64 : wrap64 (op - s) = 300 := by unfold wrap64; omega
  have HMM := Lib.hid hm1
  have HW64 := Lib.hid hw64
  have a1 : (op == 1) = false := by simp; omega
  have d1 : decide (op = 1) = false := by simp; omega
  have a2 : (op == 2) = false := by simp; omega
  have d2 : decide (op = 2) = false := by simp; omega
  have a3 : (op == 3) = false := by simp; omega
  have d3 : decide (op = 3) = false := by simp; omega
  have a4 : (op == 4) = false := by simp; omega
  have d4 : decide (op = 4) = false := by simp; omega
  have a5 : (op == 5) = false := by simp; omega
  have d5 : decide (op = 5) = false := by simp; omega
  have a6 : (op == 6) = false := by simp; omega
  have d6 : decide (op = 6) = false := by simp; omega
  have HGA := Lib.hid (get7_any H1 ka hka)
  have HGB := Lib.hid (get7_any H1 kb hkb)
  obtain ⟨a, ha⟩ : ∃ a, a = d.get ka := ⟨_, rfl⟩
  obtain ⟨b, hb⟩ : ∃ b, b = d.get kb := ⟨_, rfl⟩
  have HUA : Hid (U32 a) := Lib.hid (by rw [ha]; exact get_u32 h.wf ka)
  have HUB : Hid (U32 b) := Lib.hid (by rw [hb]; exact get_u32 h.wf kb)
  rw [← ha] at HGA hok
  (try rw [← ha])
  rw [← hb] at HGB
  (try rw [← hb])
  clear hop hm1 hm2 hw64 ha hb h H1 hb1 hw1
  go_enter Try.func80, Try.ntmps80
  go_upto_region 1 with (fail)
  rw [← HW1.out]
  go_upto_region 24 with (fail)
  go_upto_region 25 with (fail)
  try rw [HMM.out]
  go_wp2_with fail
  refine HGA.out.mono ?_
  rintro e w2 ⟨rfl, rfl⟩
  go_wp2_with fail
  refine HGB.out.mono ?_
  rintro e w3 ⟨rfl, rfl⟩
  go_upto_region 28 with (fail)
  try rw [HW64.out]
  obtain ⟨q, hq⟩ : ∃ q, q = Fb.u32 (a + n) := ⟨_, rfl⟩
  have huq : U32 q := by rw [hq]; exact u32_ok _
  have HSU := Lib.hid (sum7_any a n w3 HUA.out hn)
  rw [← hq] at HSU hok
  obtain ⟨sz, hsz, hsz4⟩ : ∃ sz : Nat, msize s = (sz : Int) ∧ sz ≤ 4 := by
    have : s = 16 ∨ s = 17 ∨ s = 18 := by omega
    rcases this with rfl | rfl | rfl
    · exact ⟨1, by decide, by omega⟩
    · exact ⟨2, by decide, by omega⟩
    · exact ⟨4, by decide, by omega⟩
  have HSZ : Hid ((d.mem s (Fb.u32 (a + n)) b).stored (Fb.u32 (a + n)) (msize s).toNat = (d.mem s q b).stored q sz) := Lib.hid (by rw [hq, hsz]; simp)
  have hss : ssize s = (sz : Int) := by rw [← hsz]; unfold ssize; rw [if_pos (by simp [mStoreOk] at hok; exact hok.1)]
  have HSI := Lib.hid (fun W => size3_store s W)
  rw [hss] at HSI
  clear hss hsz
  clear hq
  have HOK := Lib.hid hok
  have HUQ := Lib.hid huq
  clear hok huq
  go_upto_region 37 with (fail)
  go_wp2_with fail
  refine HSU.out.mono ?_
  rintro e w4 ⟨rfl, nd, hw4⟩
  have hb4 : Below w3.heap.size w3 w4 := by rw [hw4]; exact below_drewN (Below.refl _ _) nd
  have H4 := Lib.hid (HH1.out.below hb4)
  have HG4 : Hid (G7 rp w3 vo vs w4 vo vs) := Lib.hid (G7.below hb4)
  have y37 := H4.out.at_.get ((r7_tail (vm := .slice am d.m.length cm) (vo := vo) (vs := vs) HWF.out.h.len 0).trans (show (r7tail d (.slice am d.m.length cm) vo vs)[0]? = some (.slice am d.m.length cm) from rfl))
  have z37 := H4.out.frz 37
  simp only [Nat.zero_add, Nat.reduceAdd] at y37
  have hlm := HWF.out.mlen
  have hlt4 := H4.out.lt
  clear hw4 hb4 c0 c1 c2 c3 c4
  obtain ⟨qn, hqn⟩ : ∃ qn : Nat, q = (qn : Int) := Int.eq_ofNat_of_zero_le HUQ.out.1
  have HST := Lib.hid (store3_yes (.slice am d.m.length cm) d.m s qn b w4 H4.out.mem (by rw [← hqn]; exact HUQ.out) HUB.out (by rw [← hqn]; exact HOK.out) (by omega))
  rw [← hqn] at HST
  clear hqn
  go_wp2_with fail
  refine HST.out.mono ?_
  rintro e w7 ⟨⟨v7, rfl, hm7, hf7⟩, hb7⟩
  have hne7 : mStore d.m s q b ≠ [] := by
    intro e
    have h1 := congrArg List.length e
    rw [mStore_length] at h1
    exact storeOk_ne HOK.out HUQ.out (List.eq_nil_of_length_eq_zero (by simpa using h1))
  have HM7 := Lib.hid (r7_mem H4.out hb7 hm7 (fun q e => ⟨hf7 q e, ints_lt hm7 hne7 e⟩) (mStore_bytes HWF.out.m s q b) (by rw [mStore_length]; exact hlm))
  have y37 := (hb7.cell (p := ⟨rp, 37, none⟩) H4.out.lt).trans y37
  have z37 := (hb7.frozen (p := ⟨rp, 37, none⟩) H4.out.lt).trans z37
  obtain ⟨a7, c7, rfl, -⟩ := hm7.open
  obtain ⟨w8, hw8⟩ : ∃ w8, w8 = w7.setCell ⟨rp, 37, none⟩ (.slice a7 (mStore d.m s q b).length c7) := ⟨_, rfl⟩
  rw [← hw8] at HM7
  have HW8 := Lib.hid hw8
  have HG8 := Lib.hid (HG4.out.trans HM7.out.2)
  have HSD := Lib.hid (stored7_any HM7.out.1 q sz HUQ.out hsz4 hsl)
  clear hm7 hf7 hb7 hne7 hw8 HST
  go_upto_region 42 with (fail)
  rw [← HW8.out]
  clear y37 z37
  go_wp2_with fail
  refine (HSI.out _).mono ?_
  rintro e w9 ⟨rfl, rfl⟩
  go_wp2_with fail
  refine HSD.out.mono ?_
  rintro e w10 ⟨rfl, vs9, h9, g9⟩
  go_wp2_with fail
  go_end0
  exact ⟨rfl, .slice a7 (mStore d.m s q b).length c7, vo, vs9, by rw [HSZ.out]; exact h9, HG1.out.trans (HG8.out.trans g9)⟩
end
end Go.Proofs.Ytlfnddmncbkjaab.W
