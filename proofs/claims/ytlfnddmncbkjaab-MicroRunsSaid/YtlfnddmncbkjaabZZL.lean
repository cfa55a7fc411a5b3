/- micro.Runner: one small step, walked by class. -/
import Derived.Test.YtlfnddmncbkjaabZZG
import Derived.Test.YtlfnddmncbkjaabZZE
import Derived.Test.YtlfnddmncbkjaabZZI
import Derived.Test.YtlfnddmncbkjaabZZK
import Derived.Test.YtlfnddmncbkjaabZZH
namespace Go.Proofs.Ytlfnddmncbkjaab.Fb
set_option linter.unusedVariables false
set_option linter.unusedSimpArgs false
open Go.RowKit
theorem callS_m8 (d : CoreD) : (callS d).1.m = d.m := by
  unfold callS
  split
  · rfl
  · split <;> rfl
theorem callS_ft (d : CoreD) : (callS d).1.fr = d.fr ∧ (callS d).1.tw = d.tw := by
  unfold callS
  split
  · exact ⟨rfl, rfl⟩
  · split <;> exact ⟨rfl, rfl⟩
theorem call_yes8 (d : RunD) (h : (callS (d.core 0 0)).2 = true) : d.call = d.ofC (callS (d.core 0 0)).1 := by
  unfold callS at h ⊢
  unfold RunD.call
  have e : ∀ r, (d.core 0 0).h.reg r = d.h.reg r := fun r => rfl
  simp only [e] at h ⊢
  by_cases c0 : d.h.reg 17 = 0
  · simp only [if_pos c0] at h; cases h
  · simp only [if_neg c0] at h ⊢
    by_cases c1 : d.h.reg 17 = 1
    · simp only [if_pos c1]; rfl
    · simp only [if_neg c1] at h; cases h
theorem call_no8 (d : RunD) (h : (callS (d.core 0 0)).2 = false) : d.call = (d.ofC (callS (d.core 0 0)).1).stop d.here := by
  unfold callS at h ⊢
  unfold RunD.call
  have e : ∀ r, (d.core 0 0).h.reg r = d.h.reg r := fun r => rfl
  simp only [e] at h ⊢
  by_cases c0 : d.h.reg 17 = 0
  · simp only [if_pos c0]; rfl
  · simp only [if_neg c0] at h ⊢
    by_cases c1 : d.h.reg 17 = 1
    · simp only [if_pos c1] at h; cases h
    · simp only [if_neg c1]; rfl
end Go.Proofs.Ytlfnddmncbkjaab.Fb
namespace Go.Proofs.Ytlfnddmncbkjaab.W
open Go.RowKit Fb
section
variable {rp cp hb : Nat} {vm : Value} {w : World} {d : RunD} {vs : Value} {steps : Int}
theorem at8_eq (h : R8 rp cp hb vm 34 60 152 w d vs steps 0 0) (n : Int) (hn : U32 n) (hds : 0 ≤ d.steps ∧ d.steps ≤ 100000) (hst : i64ok steps) (hle : 0 ≤ steps - d.steps) (hov : d.over = false) (d' : RunD) (hd' : d' = (if (d.steps == steps || d.own) = true then d.stop n else { d with steps := d.steps + 1, here := n })) :
    Calls Try.prog 121 #[.pointer (some ⟨rp, 0, none⟩), .int .u32 n] w fun e w' => e = .returned (.bool (!d'.over)) ∧ R8 rp cp hb vm 34 60 152 w' d' vs steps 0 0 ∧ G8 rp 34 cp hb vm w w' := by
  rw [hd']
  exact (at8_any h n hn hds hst hle hov).mono fun _ _ ⟨_, e1, e2, e3, e4⟩ => by subst e1; exact ⟨e2, e3, e4⟩
theorem quiet_more8 {P : Program} {f : FuncId} {args : Array Value} {w : World} {n : Nat} {v : Value} (h : Calls P f args (w.drewN n) fun e w' => e = .returned v ∧ ∃ m, w' = (w.drewN n).drewN m) :
    Calls P f args (w.drewN n) fun e w'' => e = .returned v ∧ ∃ m, w'' = w.drewN m :=
  h.mono fun _ _ ⟨he, m, hm⟩ => ⟨he, n + m, by rw [hm, World.drewN_drewN]⟩
set_option maxRecDepth 100000 in
set_option maxHeartbeats 1000000 in
theorem one8_at (h : R8 rp cp hb vm 34 60 152 w d vs steps 0 0) (op n : Int) (kd ka kb : Nat) (hkd : kd < 36) (hka : ka < 36) (hkb : kb < 36) (hn : U32 n) (hst : i64ok steps) (hds : 0 ≤ d.steps ∧ d.steps ≤ 100000) (hle : 0 ≤ steps - d.steps) (hsl : d.stores.length ≤ 100000) (hol : d.out.length ≤ 100000) (hov : d.over = false) (hop : op = 1)  (d' : RunD) (hd' : d' = d.one ⟨op, kd, ka, kb, n⟩ steps) :
    Calls Try.prog 115 #[.pointer (some ⟨rp, 0, none⟩), .agg #[.int .i64 op, .int .i64 kd, .int .i64 ka, .int .i64 kb, .int .u32 n]] w fun e w' => e = .returned (.bool (!d'.over)) ∧ ∃ vs', R8 rp cp hb vm 34 60 152 w' d' vs' steps 0 0 ∧ G8 rp 34 cp hb vm w w' := by
  have hlt := h.rlt
  have hcr := h.lt
  have hbm : Ints .u8 w vm d.m := h.core.bytes
  obtain ⟨am, cm, rfl, -⟩ := hbm.open
  obtain ⟨w1, hw1⟩ : ∃ w1, w1 = w.alloc (.cells #[.int .i64 op, .int .i64 kd, .int .i64 ka, .int .i64 kb, .int .u32 n] 133) := ⟨_, rfl⟩
  have hb1 : Below w.heap.size w w1 := by rw [hw1]; exact (by repeat (first | with_reducible exact Below.refl _ _ | with_reducible refine below_drewN ?_ _ | ((with_reducible refine Below.setCell ?_ ?hq _); case hq => (first | (simp; done) | (simp; omega))) | ((with_reducible refine Below.alloc ?_ ?hq _); case hq => (first | (simp; done) | (simp; omega)))))
  have hs1 : w1.heap.size = w.heap.size + 1 := by rw [hw1]; simp
  have c0 : (w1).cell? ⟨w.heap.size, 0, none⟩ = some (.int .i64 op) := by rw [hw1]; go_cell
  have c1 : (w1).cell? ⟨w.heap.size, 1, none⟩ = some (.int .i64 kd) := by rw [hw1]; go_cell
  have c2 : (w1).cell? ⟨w.heap.size, 2, none⟩ = some (.int .i64 ka) := by rw [hw1]; go_cell
  have c3 : (w1).cell? ⟨w.heap.size, 3, none⟩ = some (.int .i64 kb) := by rw [hw1]; go_cell
  have c4 : (w1).cell? ⟨w.heap.size, 4, none⟩ = some (.int .u32 n) := by rw [hw1]; go_cell
  have H1 := h.below hb1
  have HG1 : Hid (G8 rp 34 cp hb (.slice am d.m.length cm) w w1) := Lib.hid (G8.below hb1 h.clt)
  have HCL := Lib.hid H1.clt
  have hres : d.one ⟨op, kd, ka, kb, n⟩ steps = (if (d.steps == steps || d.own) = true then d.stop n else { d with steps := d.steps + 1, here := n }) := by
    unfold RunD.one
    dsimp only
    rw [if_pos hop]
  rw [hres] at hd'
  clear hres
  have HH1 := Lib.hid H1
  have HW1 := Lib.hid hw1
  have HPA := Lib.hid (fun W => parts_lo op W (by omega))
  have HAT := Lib.hid (at8_eq H1 n hn hds hst hle hov d' hd')
  have HD := Lib.hid hd'
  subst hop
  clear hd' h H1 hb1 hw1 c1 c2 c3
  go_enter Try.func115, Try.ntmps115
  go_upto_region 1 with (fail)
  rw [← HW1.out]
  go_wp2_with fail
  refine (HPA.out _).mono ?_
  rintro e w2 ⟨rfl, hww2⟩
  obtain rfl := hww2.symm
  go_wp2_with fail
  refine HAT.out.mono ?_
  rintro e w9 ⟨rfl, h9, g9⟩
  go_wp2_with fail
  go_ret
  exact ⟨rfl, _, h9, HG1.out.trans g9⟩
set_option maxRecDepth 100000 in
set_option maxHeartbeats 1000000 in
theorem one8_set (h : R8 rp cp hb vm 34 60 152 w d vs steps 0 0) (op n : Int) (kd ka kb : Nat) (hkd : kd < 36) (hka : ka < 36) (hkb : kb < 36) (hn : U32 n) (hst : i64ok steps) (hds : 0 ≤ d.steps ∧ d.steps ≤ 100000) (hle : 0 ≤ steps - d.steps) (hsl : d.stores.length ≤ 100000) (hol : d.out.length ≤ 100000) (hov : d.over = false) (hop : op = 2)  (d' : RunD) (hd' : d' = d.one ⟨op, kd, ka, kb, n⟩ steps) :
    Calls Try.prog 115 #[.pointer (some ⟨rp, 0, none⟩), .agg #[.int .i64 op, .int .i64 kd, .int .i64 ka, .int .i64 kb, .int .u32 n]] w fun e w' => e = .returned (.bool (!d'.over)) ∧ ∃ vs', R8 rp cp hb vm 34 60 152 w' d' vs' steps 0 0 ∧ G8 rp 34 cp hb vm w w' := by
  have hlt := h.rlt
  have hcr := h.lt
  have hbm : Ints .u8 w vm d.m := h.core.bytes
  obtain ⟨am, cm, rfl, -⟩ := hbm.open
  obtain ⟨w1, hw1⟩ : ∃ w1, w1 = w.alloc (.cells #[.int .i64 op, .int .i64 kd, .int .i64 ka, .int .i64 kb, .int .u32 n] 133) := ⟨_, rfl⟩
  have hb1 : Below w.heap.size w w1 := by rw [hw1]; exact (by repeat (first | with_reducible exact Below.refl _ _ | with_reducible refine below_drewN ?_ _ | ((with_reducible refine Below.setCell ?_ ?hq _); case hq => (first | (simp; done) | (simp; omega))) | ((with_reducible refine Below.alloc ?_ ?hq _); case hq => (first | (simp; done) | (simp; omega)))))
  have hs1 : w1.heap.size = w.heap.size + 1 := by rw [hw1]; simp
  have c0 : (w1).cell? ⟨w.heap.size, 0, none⟩ = some (.int .i64 op) := by rw [hw1]; go_cell
  have c1 : (w1).cell? ⟨w.heap.size, 1, none⟩ = some (.int .i64 kd) := by rw [hw1]; go_cell
  have c2 : (w1).cell? ⟨w.heap.size, 2, none⟩ = some (.int .i64 ka) := by rw [hw1]; go_cell
  have c3 : (w1).cell? ⟨w.heap.size, 3, none⟩ = some (.int .i64 kb) := by rw [hw1]; go_cell
  have c4 : (w1).cell? ⟨w.heap.size, 4, none⟩ = some (.int .u32 n) := by rw [hw1]; go_cell
  have H1 := h.below hb1
  have HG1 : Hid (G8 rp 34 cp hb (.slice am d.m.length cm) w w1) := Lib.hid (G8.below hb1 h.clt)
  have HCL := Lib.hid H1.clt
  have hres : d.one ⟨op, kd, ka, kb, n⟩ steps = d.put kd n := by
    unfold RunD.one
    dsimp only
    rw [if_neg (by omega)]
    rw [if_pos hop]
    try simp only [Int.toNat_natCast]
  rw [hres] at hd'
  clear hres
  have HH1 := Lib.hid H1
  have HW1 := Lib.hid hw1
  have HPA := Lib.hid (fun W => parts_lo op W (by omega))
  have HCC := Lib.hid (put8_any H1 kd hkd n hn)
  have HD := Lib.hid hd'
  subst hop
  clear hd' h H1 hb1 hw1 c2 c3
  go_enter Try.func115, Try.ntmps115
  go_upto_region 1 with (fail)
  rw [← HW1.out]
  go_wp2_with fail
  refine (HPA.out _).mono ?_
  rintro e w2 ⟨rfl, hww2⟩
  obtain rfl := hww2.symm
  go_wp2_with fail
  refine HCC.out.mono ?_
  rintro e w9 ⟨rfl, h9, g9⟩
  go_wp2_with fail
  go_ret
  have e := HD.out
  subst e
  refine ⟨ret_bool ?_, _, h9, HG1.out.trans g9⟩
  rw [put_over, hov]; rfl
set_option maxRecDepth 100000 in
set_option maxHeartbeats 1000000 in
theorem one8_go (h : R8 rp cp hb vm 34 60 152 w d vs steps 0 0) (op n : Int) (kd ka kb : Nat) (hkd : kd < 36) (hka : ka < 36) (hkb : kb < 36) (hn : U32 n) (hst : i64ok steps) (hds : 0 ≤ d.steps ∧ d.steps ≤ 100000) (hle : 0 ≤ steps - d.steps) (hsl : d.stores.length ≤ 100000) (hol : d.out.length ≤ 100000) (hov : d.over = false) (hop : op = 3)  (d' : RunD) (hd' : d' = d.one ⟨op, kd, ka, kb, n⟩ steps) :
    Calls Try.prog 115 #[.pointer (some ⟨rp, 0, none⟩), .agg #[.int .i64 op, .int .i64 kd, .int .i64 ka, .int .i64 kb, .int .u32 n]] w fun e w' => e = .returned (.bool (!d'.over)) ∧ ∃ vs', R8 rp cp hb vm 34 60 152 w' d' vs' steps 0 0 ∧ G8 rp 34 cp hb vm w w' := by
  have hlt := h.rlt
  have hcr := h.lt
  have hbm : Ints .u8 w vm d.m := h.core.bytes
  obtain ⟨am, cm, rfl, -⟩ := hbm.open
  obtain ⟨w1, hw1⟩ : ∃ w1, w1 = w.alloc (.cells #[.int .i64 op, .int .i64 kd, .int .i64 ka, .int .i64 kb, .int .u32 n] 133) := ⟨_, rfl⟩
  have hb1 : Below w.heap.size w w1 := by rw [hw1]; exact (by repeat (first | with_reducible exact Below.refl _ _ | with_reducible refine below_drewN ?_ _ | ((with_reducible refine Below.setCell ?_ ?hq _); case hq => (first | (simp; done) | (simp; omega))) | ((with_reducible refine Below.alloc ?_ ?hq _); case hq => (first | (simp; done) | (simp; omega)))))
  have hs1 : w1.heap.size = w.heap.size + 1 := by rw [hw1]; simp
  have c0 : (w1).cell? ⟨w.heap.size, 0, none⟩ = some (.int .i64 op) := by rw [hw1]; go_cell
  have c1 : (w1).cell? ⟨w.heap.size, 1, none⟩ = some (.int .i64 kd) := by rw [hw1]; go_cell
  have c2 : (w1).cell? ⟨w.heap.size, 2, none⟩ = some (.int .i64 ka) := by rw [hw1]; go_cell
  have c3 : (w1).cell? ⟨w.heap.size, 3, none⟩ = some (.int .i64 kb) := by rw [hw1]; go_cell
  have c4 : (w1).cell? ⟨w.heap.size, 4, none⟩ = some (.int .u32 n) := by rw [hw1]; go_cell
  have H1 := h.below hb1
  have HG1 : Hid (G8 rp 34 cp hb (.slice am d.m.length cm) w w1) := Lib.hid (G8.below hb1 h.clt)
  have HCL := Lib.hid H1.clt
  have hres : d.one ⟨op, kd, ka, kb, n⟩ steps = d.stop n := by
    unfold RunD.one
    dsimp only
    rw [if_neg (by omega)]
    rw [if_neg (by omega)]
    rw [if_pos hop]
  rw [hres] at hd'
  clear hres
  have HH1 := Lib.hid H1
  have HW1 := Lib.hid hw1
  have HPA := Lib.hid (fun W => parts_lo op W (by omega))
  have HCC := Lib.hid (stop8_any H1 n hn)
  have HD := Lib.hid hd'
  subst hop
  clear hd' h H1 hb1 hw1 c2 c3
  go_enter Try.func115, Try.ntmps115
  go_upto_region 1 with (fail)
  rw [← HW1.out]
  go_wp2_with fail
  refine (HPA.out _).mono ?_
  rintro e w2 ⟨rfl, hww2⟩
  obtain rfl := hww2.symm
  go_wp2_with fail
  refine HCC.out.mono ?_
  rintro e w9 ⟨rfl, h9, g9⟩
  go_wp2_with fail
  go_ret
  have e := HD.out
  subst e
  refine ⟨ret_bool ?_, _, h9, HG1.out.trans g9⟩
  rfl
set_option maxRecDepth 100000 in
set_option maxHeartbeats 1000000 in
theorem one8_reg (h : R8 rp cp hb vm 34 60 152 w d vs steps 0 0) (op n : Int) (kd ka kb : Nat) (hkd : kd < 36) (hka : ka < 36) (hkb : kb < 36) (hn : U32 n) (hst : i64ok steps) (hds : 0 ≤ d.steps ∧ d.steps ≤ 100000) (hle : 0 ≤ steps - d.steps) (hsl : d.stores.length ≤ 100000) (hol : d.out.length ≤ 100000) (hov : d.over = false) (hop : op = 4)  (d' : RunD) (hd' : d' = d.one ⟨op, kd, ka, kb, n⟩ steps) :
    Calls Try.prog 115 #[.pointer (some ⟨rp, 0, none⟩), .agg #[.int .i64 op, .int .i64 kd, .int .i64 ka, .int .i64 kb, .int .u32 n]] w fun e w' => e = .returned (.bool (!d'.over)) ∧ ∃ vs', R8 rp cp hb vm 34 60 152 w' d' vs' steps 0 0 ∧ G8 rp 34 cp hb vm w w' := by
  have hlt := h.rlt
  have hcr := h.lt
  have hbm : Ints .u8 w vm d.m := h.core.bytes
  obtain ⟨am, cm, rfl, -⟩ := hbm.open
  obtain ⟨w1, hw1⟩ : ∃ w1, w1 = w.alloc (.cells #[.int .i64 op, .int .i64 kd, .int .i64 ka, .int .i64 kb, .int .u32 n] 133) := ⟨_, rfl⟩
  have hb1 : Below w.heap.size w w1 := by rw [hw1]; exact (by repeat (first | with_reducible exact Below.refl _ _ | with_reducible refine below_drewN ?_ _ | ((with_reducible refine Below.setCell ?_ ?hq _); case hq => (first | (simp; done) | (simp; omega))) | ((with_reducible refine Below.alloc ?_ ?hq _); case hq => (first | (simp; done) | (simp; omega)))))
  have hs1 : w1.heap.size = w.heap.size + 1 := by rw [hw1]; simp
  have c0 : (w1).cell? ⟨w.heap.size, 0, none⟩ = some (.int .i64 op) := by rw [hw1]; go_cell
  have c1 : (w1).cell? ⟨w.heap.size, 1, none⟩ = some (.int .i64 kd) := by rw [hw1]; go_cell
  have c2 : (w1).cell? ⟨w.heap.size, 2, none⟩ = some (.int .i64 ka) := by rw [hw1]; go_cell
  have c3 : (w1).cell? ⟨w.heap.size, 3, none⟩ = some (.int .i64 kb) := by rw [hw1]; go_cell
  have c4 : (w1).cell? ⟨w.heap.size, 4, none⟩ = some (.int .u32 n) := by rw [hw1]; go_cell
  have H1 := h.below hb1
  have HG1 : Hid (G8 rp 34 cp hb (.slice am d.m.length cm) w w1) := Lib.hid (G8.below hb1 h.clt)
  have HCL := Lib.hid H1.clt
  have hres : d.one ⟨op, kd, ka, kb, n⟩ steps = d.stop (u32 (d.get ka + n) - u32 (d.get ka + n) % 2) := by
    unfold RunD.one
    dsimp only
    rw [if_neg (by omega)]
    rw [if_neg (by omega)]
    rw [if_neg (by omega)]
    rw [if_pos hop]
    try simp only [Int.toNat_natCast]
  rw [hres] at hd'
  clear hres
  have HH1 := Lib.hid H1
  have HW1 := Lib.hid hw1
  have HPA := Lib.hid (fun W => parts_lo op W (by omega))
  have HGA := Lib.hid (fun nd => (get8_any (H1.below (below_drewN (Below.refl _ w1) nd)) ka hka).mono (R' := fun e w' => e = .returned (.int .u32 (d.get ka)) ∧ w1.drewN nd = w') (fun e w' h => ⟨h.1, h.2.symm⟩))
  have HGB := Lib.hid (fun nd => (get8_any (H1.below (below_drewN (Below.refl _ w1) nd)) kb hkb).mono (R' := fun e w' => e = .returned (.int .u32 (d.get kb)) ∧ w1.drewN nd = w') (fun e w' h => ⟨h.1, h.2.symm⟩))
  obtain ⟨a, ha⟩ : ∃ a, a = d.get ka := ⟨_, rfl⟩
  obtain ⟨b, hbb⟩ : ∃ b, b = d.get kb := ⟨_, rfl⟩
  have HUA : Hid (U32 a) := Lib.hid (by rw [ha]; exact get_u32 h.wf ka)
  have HUB : Hid (U32 b) := Lib.hid (by rw [hbb]; exact get_u32 h.wf kb)
  rw [← ha] at HGA hd'
  rw [← hbb] at HGB
  try rw [← hbb] at hd'
  have hu32 : ∀ x, u32 x = x % 4294967296 := fun x => rfl
  simp only [hu32] at hd'
  have hand : bits .andNot .u32 ((a + n) % 4294967296) 1 = (a + n) % 4294967296 - (a + n) % 4294967296 % 2 := andNot1 _ (u32_ok _)
  have huq : U32 ((a + n) % 4294967296 - (a + n) % 4294967296 % 2) := by have := u32_ok (a + n); unfold u32 U32 at this; unfold U32; omega
  rw [← hand] at hd' huq
  generalize hq : bits .andNot .u32 ((a + n) % 4294967296) 1 = q at *
  have HQ := Lib.hid hq
  have HST := Lib.hid (fun W (hb : Below w1.heap.size w1 W) => stop8_any (HH1.out.below hb) q huq)
  have HD := Lib.hid hd'
  subst hop
  clear hd' h H1 hb1 hw1 ha hbb hand huq hq hu32 c1 c3
  go_enter Try.func115, Try.ntmps115
  go_upto_region 1 with (fail)
  rw [← HW1.out]
  go_wp2_with fail
  refine (HPA.out _).mono ?_
  rintro e w2 ⟨rfl, hww2⟩
  obtain rfl := hww2.symm
  go_upto_region 11 with (fail)
  refine region_quiet_tail (fun W => ∃ nd, W = w1.drewN nd) 9 (by kernel_rfl) (by kernel_rfl) ⟨1, rfl⟩ ?_
  simp only [List.take_succ_cons, List.take_zero, List.drop_succ_cons, List.drop_zero]
  iterate 9 quiet_step ((go_at_call 124; exact quiet_left (HGA.out _)))
  refine wpQuiet_nil ?_
  rintro _ ⟨nd, rfl⟩
  go_wp2_with fail
  rw [HQ.out]
  refine (HST.out _ (below_drewN (Below.refl _ _) nd)).mono ?_
  rintro e w9 ⟨rfl, h9, g9⟩
  go_wp2_with fail
  go_ret
  have e := HD.out
  subst e
  exact ⟨rfl, _, h9, HG1.out.trans ((G8.below (below_drewN (Below.refl _ _) _) HCL.out).trans g9)⟩
set_option maxRecDepth 100000 in
set_option maxHeartbeats 1000000 in
theorem one8_brk (h : R8 rp cp hb vm 34 60 152 w d vs steps 0 0) (op n : Int) (kd ka kb : Nat) (hkd : kd < 36) (hka : ka < 36) (hkb : kb < 36) (hn : U32 n) (hst : i64ok steps) (hds : 0 ≤ d.steps ∧ d.steps ≤ 100000) (hle : 0 ≤ steps - d.steps) (hsl : d.stores.length ≤ 100000) (hol : d.out.length ≤ 100000) (hov : d.over = false) (hop : op = 6)  (d' : RunD) (hd' : d' = d.one ⟨op, kd, ka, kb, n⟩ steps) :
    Calls Try.prog 115 #[.pointer (some ⟨rp, 0, none⟩), .agg #[.int .i64 op, .int .i64 kd, .int .i64 ka, .int .i64 kb, .int .u32 n]] w fun e w' => e = .returned (.bool (!d'.over)) ∧ ∃ vs', R8 rp cp hb vm 34 60 152 w' d' vs' steps 0 0 ∧ G8 rp 34 cp hb vm w w' := by
  have hlt := h.rlt
  have hcr := h.lt
  have hbm : Ints .u8 w vm d.m := h.core.bytes
  obtain ⟨am, cm, rfl, -⟩ := hbm.open
  obtain ⟨w1, hw1⟩ : ∃ w1, w1 = w.alloc (.cells #[.int .i64 op, .int .i64 kd, .int .i64 ka, .int .i64 kb, .int .u32 n] 133) := ⟨_, rfl⟩
  have hb1 : Below w.heap.size w w1 := by rw [hw1]; exact (by repeat (first | with_reducible exact Below.refl _ _ | with_reducible refine below_drewN ?_ _ | ((with_reducible refine Below.setCell ?_ ?hq _); case hq => (first | (simp; done) | (simp; omega))) | ((with_reducible refine Below.alloc ?_ ?hq _); case hq => (first | (simp; done) | (simp; omega)))))
  have hs1 : w1.heap.size = w.heap.size + 1 := by rw [hw1]; simp
  have c0 : (w1).cell? ⟨w.heap.size, 0, none⟩ = some (.int .i64 op) := by rw [hw1]; go_cell
  have c1 : (w1).cell? ⟨w.heap.size, 1, none⟩ = some (.int .i64 kd) := by rw [hw1]; go_cell
  have c2 : (w1).cell? ⟨w.heap.size, 2, none⟩ = some (.int .i64 ka) := by rw [hw1]; go_cell
  have c3 : (w1).cell? ⟨w.heap.size, 3, none⟩ = some (.int .i64 kb) := by rw [hw1]; go_cell
  have c4 : (w1).cell? ⟨w.heap.size, 4, none⟩ = some (.int .u32 n) := by rw [hw1]; go_cell
  have H1 := h.below hb1
  have HG1 : Hid (G8 rp 34 cp hb (.slice am d.m.length cm) w w1) := Lib.hid (G8.below hb1 h.clt)
  have HCL := Lib.hid H1.clt
  have hres : d.one ⟨op, kd, ka, kb, n⟩ steps = d.trap 6 := by
    unfold RunD.one
    dsimp only
    rw [if_neg (by omega)]
    rw [if_neg (by omega)]
    rw [if_neg (by omega)]
    rw [if_neg (by omega)]
    rw [if_pos hop]
  rw [hres] at hd'
  clear hres
  have HH1 := Lib.hid H1
  have HW1 := Lib.hid hw1
  have HPA := Lib.hid (fun W => parts_lo op W (by omega))
  have HCC := Lib.hid (trap8_any H1 6 ⟨by omega, by omega⟩)
  have HD := Lib.hid hd'
  subst hop
  clear hd' h H1 hb1 hw1 c2 c3
  go_enter Try.func115, Try.ntmps115
  go_upto_region 1 with (fail)
  rw [← HW1.out]
  go_wp2_with fail
  refine (HPA.out _).mono ?_
  rintro e w2 ⟨rfl, hww2⟩
  obtain rfl := hww2.symm
  go_wp2_with fail
  refine HCC.out.mono ?_
  rintro e w9 ⟨rfl, h9, g9⟩
  go_wp2_with fail
  go_ret
  have e := HD.out
  subst e
  refine ⟨ret_bool ?_, _, h9, HG1.out.trans g9⟩
  rfl
set_option maxRecDepth 100000 in
set_option maxHeartbeats 1000000 in
theorem one8_call (h : R8 rp cp hb vm 34 60 152 w d vs steps 0 0) (op n : Int) (kd ka kb : Nat) (hkd : kd < 36) (hka : ka < 36) (hkb : kb < 36) (hn : U32 n) (hst : i64ok steps) (hds : 0 ≤ d.steps ∧ d.steps ≤ 100000) (hle : 0 ≤ steps - d.steps) (hsl : d.stores.length ≤ 100000) (hol : d.out.length ≤ 100000) (hov : d.over = false) (hop : op = 5)  (d' : RunD) (hd' : d' = d.one ⟨op, kd, ka, kb, n⟩ steps) :
    Calls Try.prog 115 #[.pointer (some ⟨rp, 0, none⟩), .agg #[.int .i64 op, .int .i64 kd, .int .i64 ka, .int .i64 kb, .int .u32 n]] w fun e w' => e = .returned (.bool (!d'.over)) ∧ ∃ vs', R8 rp cp hb vm 34 60 152 w' d' vs' steps 0 0 ∧ G8 rp 34 cp hb vm w w' := by
  have hlt := h.rlt
  have hcr := h.lt
  have hbm : Ints .u8 w vm d.m := h.core.bytes
  obtain ⟨am, cm, rfl, -⟩ := hbm.open
  obtain ⟨w1, hw1⟩ : ∃ w1, w1 = w.alloc (.cells #[.int .i64 op, .int .i64 kd, .int .i64 ka, .int .i64 kb, .int .u32 n] 133) := ⟨_, rfl⟩
  have hb1 : Below w.heap.size w w1 := by rw [hw1]; exact (by repeat (first | with_reducible exact Below.refl _ _ | with_reducible refine below_drewN ?_ _ | ((with_reducible refine Below.setCell ?_ ?hq _); case hq => (first | (simp; done) | (simp; omega))) | ((with_reducible refine Below.alloc ?_ ?hq _); case hq => (first | (simp; done) | (simp; omega)))))
  have hs1 : w1.heap.size = w.heap.size + 1 := by rw [hw1]; simp
  have c0 : (w1).cell? ⟨w.heap.size, 0, none⟩ = some (.int .i64 op) := by rw [hw1]; go_cell
  have c1 : (w1).cell? ⟨w.heap.size, 1, none⟩ = some (.int .i64 kd) := by rw [hw1]; go_cell
  have c2 : (w1).cell? ⟨w.heap.size, 2, none⟩ = some (.int .i64 ka) := by rw [hw1]; go_cell
  have c3 : (w1).cell? ⟨w.heap.size, 3, none⟩ = some (.int .i64 kb) := by rw [hw1]; go_cell
  have c4 : (w1).cell? ⟨w.heap.size, 4, none⟩ = some (.int .u32 n) := by rw [hw1]; go_cell
  have H1 := h.below hb1
  have HG1 : Hid (G8 rp 34 cp hb (.slice am d.m.length cm) w w1) := Lib.hid (G8.below hb1 h.clt)
  have HCL := Lib.hid H1.clt
  have hres : d.one ⟨op, kd, ka, kb, n⟩ steps = d.call := by
    unfold RunD.one
    dsimp only
    rw [if_neg (by omega)]
    rw [if_neg (by omega)]
    rw [if_neg (by omega)]
    rw [if_neg (by omega)]
    rw [if_neg (by omega)]
    rw [if_pos hop]
  rw [hres] at hd'
  clear hres
  have HH1 := Lib.hid H1
  have HW1 := Lib.hid hw1
  have HPA := Lib.hid (fun W => parts_lo op W (by omega))
  have hcw := H1.cwf
  have HCA : Hid (Calls Try.prog 125 #[.pointer (some ⟨cp, 0, none⟩)] w1 fun e w' => e = .returned (.bool (callS (d.core 0 0)).2) ∧ R8 rp cp hb (.slice am d.m.length cm) 34 60 152 w' (d.ofC (callS (d.core 0 0)).1) vs steps (callS (d.core 0 0)).1.fr (callS (d.core 0 0)).1.tw ∧ G8 rp 34 cp hb (.slice am d.m.length cm) w1 w') := Lib.hid (by
    have hlo : (d.core 0 0).out.length < 1099511627776 := by show d.out.length < _; omega
    refine (call_any H1.core hcw hlo).mono ?_
    rintro e w9 ⟨rfl, h9, g9⟩
    exact ⟨rfl, H1.ofC h9 g9 tyR tyS (callS_wf hcw hlo) (by rw [callS_m8]; exact H1.mmax), G8.cgo g9 H1.clt⟩)
  obtain ⟨z1, z2⟩ := callS_ft (d.core 0 0)
  rw [show (d.core 0 0).fr = 0 from rfl] at z1
  rw [show (d.core 0 0).tw = 0 from rfl] at z2
  have hy : (callS (d.core 0 0)).2 = true → d' = d.ofC (callS (d.core 0 0)).1 := fun e => by rw [hd']; exact (call_yes8 d e)
  have hn' : (callS (d.core 0 0)).2 = false → d' = (d.ofC (callS (d.core 0 0)).1).stop d.here := fun e => by rw [hd']; exact (call_no8 d e)
  rw [z1, z2] at HCA
  generalize (callS (d.core 0 0)).2 = ok at *
  generalize (callS (d.core 0 0)).1 = c' at *
  have HY := Lib.hid hy
  have HN := Lib.hid hn'
  have HSP := Lib.hid (fun W vs fr tw (hW : R8 rp cp hb (.slice am d.m.length cm) 34 60 152 W (d.ofC c') vs steps fr tw) => stop8_any hW d.here hW.wf.here)
  have g0 := H1.at_.get (r8_head 0 (by omega))
  simp only [Nat.zero_add] at g0
  subst hop
  clear hd' hy hn' h H1 hb1 hw1 z1 z2 hcw c1 c2 c3 c4
  go_enter Try.func115, Try.ntmps115
  go_upto_region 1 with (fail)
  rw [← HW1.out]
  go_wp2_with fail
  refine (HPA.out _).mono ?_
  rintro e w2 ⟨rfl, hww2⟩
  obtain rfl := hww2.symm
  go_wp2_with fail
  refine HCA.out.mono ?_
  rintro e w5 ⟨rfl, h5, g5⟩
  have hd10 := h5.at_.get (r8_end h5.wf.tlen 0)
  have g10 : w5.cell? ⟨rp, 10, none⟩ = some (.int .u32 d.here) := by simpa [RunD.ofC] using hd10
  have HR := Lib.hid (And.intro h5 g5)
  clear h5 g5 hd10 g0 c0
  cases ok with
  | true =>
    go_wp2_with fail
    go_ret
    have e := HY.out (by first | rfl | trivial)
    subst e
    refine ⟨ret_bool ?_, _, HR.out.1, HG1.out.trans HR.out.2⟩
    show true = !d.over
    rw [hov]; rfl
  | false =>
    go_wp2_with fail
    refine (HSP.out _ _ _ _ HR.out.1).mono ?_
    rintro e w6 ⟨rfl, h6, g6⟩
    go_wp2_with fail
    go_ret
    have e := HN.out (by first | rfl | trivial)
    subst e
    exact ⟨rfl, _, h6, HG1.out.trans (HR.out.2.trans g6)⟩
set_option maxRecDepth 100000 in
set_option maxHeartbeats 1000000 in
theorem one8_if (h : R8 rp cp hb vm 34 60 152 w d vs steps 0 0) (op n : Int) (kd ka kb : Nat) (hkd : kd < 36) (hka : ka < 36) (hkb : kb < 36) (hn : U32 n) (hst : i64ok steps) (hds : 0 ≤ d.steps ∧ d.steps ≤ 100000) (hle : 0 ≤ steps - d.steps) (hsl : d.stores.length ≤ 100000) (hol : d.out.length ≤ 100000) (hov : d.over = false) (s : Int) (hop : op = 100 + s) (hs : 5 ≤ s ∧ s ≤ 10) (d' : RunD) (hd' : d' = d.one ⟨op, kd, ka, kb, n⟩ steps) :
    Calls Try.prog 115 #[.pointer (some ⟨rp, 0, none⟩), .agg #[.int .i64 op, .int .i64 kd, .int .i64 ka, .int .i64 kb, .int .u32 n]] w fun e w' => e = .returned (.bool (!d'.over)) ∧ ∃ vs', R8 rp cp hb vm 34 60 152 w' d' vs' steps 0 0 ∧ G8 rp 34 cp hb vm w w' := by
  have hlt := h.rlt
  have hcr := h.lt
  have hbm : Ints .u8 w vm d.m := h.core.bytes
  obtain ⟨am, cm, rfl, -⟩ := hbm.open
  obtain ⟨w1, hw1⟩ : ∃ w1, w1 = w.alloc (.cells #[.int .i64 op, .int .i64 kd, .int .i64 ka, .int .i64 kb, .int .u32 n] 133) := ⟨_, rfl⟩
  have hb1 : Below w.heap.size w w1 := by rw [hw1]; exact (by repeat (first | with_reducible exact Below.refl _ _ | with_reducible refine below_drewN ?_ _ | ((with_reducible refine Below.setCell ?_ ?hq _); case hq => (first | (simp; done) | (simp; omega))) | ((with_reducible refine Below.alloc ?_ ?hq _); case hq => (first | (simp; done) | (simp; omega)))))
  have hs1 : w1.heap.size = w.heap.size + 1 := by rw [hw1]; simp
  have c0 : (w1).cell? ⟨w.heap.size, 0, none⟩ = some (.int .i64 op) := by rw [hw1]; go_cell
  have c1 : (w1).cell? ⟨w.heap.size, 1, none⟩ = some (.int .i64 kd) := by rw [hw1]; go_cell
  have c2 : (w1).cell? ⟨w.heap.size, 2, none⟩ = some (.int .i64 ka) := by rw [hw1]; go_cell
  have c3 : (w1).cell? ⟨w.heap.size, 3, none⟩ = some (.int .i64 kb) := by rw [hw1]; go_cell
  have c4 : (w1).cell? ⟨w.heap.size, 4, none⟩ = some (.int .u32 n) := by rw [hw1]; go_cell
  have H1 := h.below hb1
  have HG1 : Hid (G8 rp 34 cp hb (.slice am d.m.length cm) w w1) := Lib.hid (G8.below hb1 h.clt)
  have HCL := Lib.hid H1.clt
  obtain ⟨hm1, hm2⟩ := named_at 100 s (by omega) (by omega) (by omega)
  rw [← hop] at hm1 hm2
  have hres : d.one ⟨op, kd, ka, kb, n⟩ steps = (if holds s (d.get ka) (d.get kb) = true then d.stop n else d) := by
    unfold RunD.one
    dsimp only
    rw [if_neg (by omega)]
    rw [if_neg (by omega)]
    rw [if_neg (by omega)]
    rw [if_neg (by omega)]
    rw [if_neg (by omega)]
    rw [if_neg (by omega)]
    rw [hm2, hm1]
    rw [if_pos rfl]
    try simp only [Int.toNat_natCast]
  rw [hres] at hd'
  clear hres
  have HH1 := Lib.hid H1
  have HW1 := Lib.hid hw1
  have HPA := Lib.hid (fun W => parts_hi op 100 s W hop (by omega) (by omega) (by omega))
  have HGA := Lib.hid (fun nd => (get8_any (H1.below (below_drewN (Below.refl _ w1) nd)) ka hka).mono (R' := fun e w' => e = .returned (.int .u32 (d.get ka)) ∧ w1.drewN nd = w') (fun e w' h => ⟨h.1, h.2.symm⟩))
  have HGB := Lib.hid (fun nd => (get8_any (H1.below (below_drewN (Below.refl _ w1) nd)) kb hkb).mono (R' := fun e w' => e = .returned (.int .u32 (d.get kb)) ∧ w1.drewN nd = w') (fun e w' h => ⟨h.1, h.2.symm⟩))
  obtain ⟨a, ha⟩ : ∃ a, a = d.get ka := ⟨_, rfl⟩
  obtain ⟨b, hbb⟩ : ∃ b, b = d.get kb := ⟨_, rfl⟩
  have HUA : Hid (U32 a) := Lib.hid (by rw [ha]; exact get_u32 h.wf ka)
  have HUB : Hid (U32 b) := Lib.hid (by rw [hbb]; exact get_u32 h.wf kb)
  rw [← ha] at HGA hd'
  rw [← hbb] at HGB
  try rw [← hbb] at hd'
  have HHD := Lib.hid (fun nd => holds_any s a b (w1.drewN nd) HUA.out.1 (by have := HUA.out.2; omega) HUB.out.1 (by have := HUB.out.2; omega))
  have HST := Lib.hid (fun W (hb : Below w1.heap.size w1 W) => stop8_any (HH1.out.below hb) n hn)
  have HBL := Lib.hid (fun W (hb : Below w1.heap.size w1 W) => HH1.out.below hb)
  generalize holds s a b = ok at *
  have HD := Lib.hid hd'
  clear hd' h H1 hb1 hw1 ha hbb hm1 hm2 hop c1
  go_enter Try.func115, Try.ntmps115
  go_upto_region 1 with (fail)
  rw [← HW1.out]
  go_wp2_with fail
  refine (HPA.out _).mono ?_
  rintro e w2 ⟨rfl, hww2⟩
  obtain rfl := hww2.symm
  go_upto_region 13 with (fail)
  go_quiet (first | (go_at_call 124; with_reducible exact quiet_left (HGA.out _)) | (go_at_call 124; with_reducible exact quiet_left (HGB.out _)) | (go_at_call 18; exact quiet_left (HHD.out _)))
  cases ok with
  | true =>
    go_wp2_with fail
    refine (HST.out _ (below_drewN (Below.refl _ _) _)).mono ?_
    rintro e w9 ⟨rfl, h9, g9⟩
    go_wp2_with fail
    go_ret
    have e := HD.out
    simp only [if_true] at e
    subst e
    exact ⟨rfl, _, h9, HG1.out.trans ((G8.below (below_drewN (Below.refl _ _) _) HCL.out).trans g9)⟩
  | false =>
    go_wp2_with fail
    go_ret
    have e := HD.out
    simp only [Bool.false_eq_true, if_false] at e
    subst e
    refine ⟨ret_bool ?_, _, HBL.out _ (below_drewN (Below.refl _ _) _), HG1.out.trans (G8.below (below_drewN (Below.refl _ _) _) HCL.out)⟩
    rw [hov]; rfl
set_option maxRecDepth 100000 in
set_option maxHeartbeats 1000000 in
theorem one8_load (h : R8 rp cp hb vm 34 60 152 w d vs steps 0 0) (op n : Int) (kd ka kb : Nat) (hkd : kd < 36) (hka : ka < 36) (hkb : kb < 36) (hn : U32 n) (hst : i64ok steps) (hds : 0 ≤ d.steps ∧ d.steps ≤ 100000) (hle : 0 ≤ steps - d.steps) (hsl : d.stores.length ≤ 100000) (hol : d.out.length ≤ 100000) (hov : d.over = false) (s : Int) (hop : op = 200 + s) (hs : 11 ≤ s ∧ s ≤ 15) (d' : RunD) (hd' : d' = d.one ⟨op, kd, ka, kb, n⟩ steps) :
    Calls Try.prog 115 #[.pointer (some ⟨rp, 0, none⟩), .agg #[.int .i64 op, .int .i64 kd, .int .i64 ka, .int .i64 kb, .int .u32 n]] w fun e w' => e = .returned (.bool (!d'.over)) ∧ ∃ vs', R8 rp cp hb vm 34 60 152 w' d' vs' steps 0 0 ∧ G8 rp 34 cp hb vm w w' := by
  have hlt := h.rlt
  have hcr := h.lt
  have hbm : Ints .u8 w vm d.m := h.core.bytes
  obtain ⟨am, cm, rfl, -⟩ := hbm.open
  obtain ⟨w1, hw1⟩ : ∃ w1, w1 = w.alloc (.cells #[.int .i64 op, .int .i64 kd, .int .i64 ka, .int .i64 kb, .int .u32 n] 133) := ⟨_, rfl⟩
  have hb1 : Below w.heap.size w w1 := by rw [hw1]; exact (by repeat (first | with_reducible exact Below.refl _ _ | with_reducible refine below_drewN ?_ _ | ((with_reducible refine Below.setCell ?_ ?hq _); case hq => (first | (simp; done) | (simp; omega))) | ((with_reducible refine Below.alloc ?_ ?hq _); case hq => (first | (simp; done) | (simp; omega)))))
  have hs1 : w1.heap.size = w.heap.size + 1 := by rw [hw1]; simp
  have c0 : (w1).cell? ⟨w.heap.size, 0, none⟩ = some (.int .i64 op) := by rw [hw1]; go_cell
  have c1 : (w1).cell? ⟨w.heap.size, 1, none⟩ = some (.int .i64 kd) := by rw [hw1]; go_cell
  have c2 : (w1).cell? ⟨w.heap.size, 2, none⟩ = some (.int .i64 ka) := by rw [hw1]; go_cell
  have c3 : (w1).cell? ⟨w.heap.size, 3, none⟩ = some (.int .i64 kb) := by rw [hw1]; go_cell
  have c4 : (w1).cell? ⟨w.heap.size, 4, none⟩ = some (.int .u32 n) := by rw [hw1]; go_cell
  have H1 := h.below hb1
  have HG1 : Hid (G8 rp 34 cp hb (.slice am d.m.length cm) w w1) := Lib.hid (G8.below hb1 h.clt)
  have HCL := Lib.hid H1.clt
  obtain ⟨hm1, hm2⟩ := named_at 200 s (by omega) (by omega) (by omega)
  rw [← hop] at hm1 hm2
  have hres : d.one ⟨op, kd, ka, kb, n⟩ steps = (if mLoadOk d.m s (u32 (d.get ka + n)) = true then d.put kd (mLoad d.m s (u32 (d.get ka + n))) else d.trap 3) := by
    unfold RunD.one
    dsimp only
    rw [if_neg (by omega)]
    rw [if_neg (by omega)]
    rw [if_neg (by omega)]
    rw [if_neg (by omega)]
    rw [if_neg (by omega)]
    rw [if_neg (by omega)]
    rw [hm2, hm1]
    rw [if_neg (by omega)]
    rw [if_pos rfl]
    try simp only [Int.toNat_natCast]
  rw [hres] at hd'
  clear hres
  have HH1 := Lib.hid H1
  have HW1 := Lib.hid hw1
  have HPA := Lib.hid (fun W => parts_hi op 200 s W hop (by omega) (by omega) (by omega))
  have HBY := Lib.hid (bytes8_load H1 s op n kd ka kb hkd hka hkb hn hsl hov hs d' hd')
  clear hd' h H1 hb1 hw1 hm1 hm2 hop
  go_enter Try.func115, Try.ntmps115
  go_upto_region 1 with (fail)
  rw [← HW1.out]
  go_wp2_with fail
  refine (HPA.out _).mono ?_
  rintro e w2 ⟨rfl, hww2⟩
  obtain rfl := hww2.symm
  go_wp2_with fail
  refine HBY.out.mono ?_
  rintro e w9 ⟨rfl, vs', h9, g9⟩
  go_wp2_with fail
  go_ret
  exact ⟨rfl, _, h9, HG1.out.trans g9⟩
set_option maxRecDepth 100000 in
set_option maxHeartbeats 1000000 in
theorem one8_store (h : R8 rp cp hb vm 34 60 152 w d vs steps 0 0) (op n : Int) (kd ka kb : Nat) (hkd : kd < 36) (hka : ka < 36) (hkb : kb < 36) (hn : U32 n) (hst : i64ok steps) (hds : 0 ≤ d.steps ∧ d.steps ≤ 100000) (hle : 0 ≤ steps - d.steps) (hsl : d.stores.length ≤ 100000) (hol : d.out.length ≤ 100000) (hov : d.over = false) (s : Int) (hop : op = 300 + s) (hs : 16 ≤ s ∧ s ≤ 18) (d' : RunD) (hd' : d' = d.one ⟨op, kd, ka, kb, n⟩ steps) :
    Calls Try.prog 115 #[.pointer (some ⟨rp, 0, none⟩), .agg #[.int .i64 op, .int .i64 kd, .int .i64 ka, .int .i64 kb, .int .u32 n]] w fun e w' => e = .returned (.bool (!d'.over)) ∧ ∃ vs', R8 rp cp hb vm 34 60 152 w' d' vs' steps 0 0 ∧ G8 rp 34 cp hb vm w w' := by
  have hlt := h.rlt
  have hcr := h.lt
  have hbm : Ints .u8 w vm d.m := h.core.bytes
  obtain ⟨am, cm, rfl, -⟩ := hbm.open
  obtain ⟨w1, hw1⟩ : ∃ w1, w1 = w.alloc (.cells #[.int .i64 op, .int .i64 kd, .int .i64 ka, .int .i64 kb, .int .u32 n] 133) := ⟨_, rfl⟩
  have hb1 : Below w.heap.size w w1 := by rw [hw1]; exact (by repeat (first | with_reducible exact Below.refl _ _ | with_reducible refine below_drewN ?_ _ | ((with_reducible refine Below.setCell ?_ ?hq _); case hq => (first | (simp; done) | (simp; omega))) | ((with_reducible refine Below.alloc ?_ ?hq _); case hq => (first | (simp; done) | (simp; omega)))))
  have hs1 : w1.heap.size = w.heap.size + 1 := by rw [hw1]; simp
  have c0 : (w1).cell? ⟨w.heap.size, 0, none⟩ = some (.int .i64 op) := by rw [hw1]; go_cell
  have c1 : (w1).cell? ⟨w.heap.size, 1, none⟩ = some (.int .i64 kd) := by rw [hw1]; go_cell
  have c2 : (w1).cell? ⟨w.heap.size, 2, none⟩ = some (.int .i64 ka) := by rw [hw1]; go_cell
  have c3 : (w1).cell? ⟨w.heap.size, 3, none⟩ = some (.int .i64 kb) := by rw [hw1]; go_cell
  have c4 : (w1).cell? ⟨w.heap.size, 4, none⟩ = some (.int .u32 n) := by rw [hw1]; go_cell
  have H1 := h.below hb1
  have HG1 : Hid (G8 rp 34 cp hb (.slice am d.m.length cm) w w1) := Lib.hid (G8.below hb1 h.clt)
  have HCL := Lib.hid H1.clt
  obtain ⟨hm1, hm2⟩ := named_at 300 s (by omega) (by omega) (by omega)
  rw [← hop] at hm1 hm2
  have hres : d.one ⟨op, kd, ka, kb, n⟩ steps = (if mStoreOk d.m s (u32 (d.get ka + n)) = true then (d.mem s (u32 (d.get ka + n)) (d.get kb)).stored (u32 (d.get ka + n)) (msize s).toNat else d.trap 4) := by
    unfold RunD.one
    dsimp only
    rw [if_neg (by omega)]
    rw [if_neg (by omega)]
    rw [if_neg (by omega)]
    rw [if_neg (by omega)]
    rw [if_neg (by omega)]
    rw [if_neg (by omega)]
    rw [hm2, hm1]
    rw [if_neg (by omega)]
    rw [if_neg (by omega)]
    rw [if_pos rfl]
    try simp only [Int.toNat_natCast]
  rw [hres] at hd'
  clear hres
  have HH1 := Lib.hid H1
  have HW1 := Lib.hid hw1
  have HPA := Lib.hid (fun W => parts_hi op 300 s W hop (by omega) (by omega) (by omega))
  have HBY := Lib.hid (bytes8_store H1 s op n kd ka kb hkd hka hkb hn hsl hov hs d' hd')
  clear hd' h H1 hb1 hw1 hm1 hm2 hop
  go_enter Try.func115, Try.ntmps115
  go_upto_region 1 with (fail)
  rw [← HW1.out]
  go_wp2_with fail
  refine (HPA.out _).mono ?_
  rintro e w2 ⟨rfl, hww2⟩
  obtain rfl := hww2.symm
  go_wp2_with fail
  refine HBY.out.mono ?_
  rintro e w9 ⟨rfl, vs', h9, g9⟩
  go_wp2_with fail
  go_ret
  exact ⟨rfl, _, h9, HG1.out.trans g9⟩
set_option maxRecDepth 100000 in
set_option maxHeartbeats 1000000 in
theorem one8_alu (h : R8 rp cp hb vm 34 60 152 w d vs steps 0 0) (op n : Int) (kd ka kb : Nat) (hkd : kd < 36) (hka : ka < 36) (hkb : kb < 36) (hn : U32 n) (hst : i64ok steps) (hds : 0 ≤ d.steps ∧ d.steps ≤ 100000) (hle : 0 ≤ steps - d.steps) (hsl : d.stores.length ≤ 100000) (hol : d.out.length ≤ 100000) (hov : d.over = false) (s : Int) (hop : op = 400 + s) (hs : 28 ≤ s ∧ s ≤ 45) (d' : RunD) (hd' : d' = d.one ⟨op, kd, ka, kb, n⟩ steps) :
    Calls Try.prog 115 #[.pointer (some ⟨rp, 0, none⟩), .agg #[.int .i64 op, .int .i64 kd, .int .i64 ka, .int .i64 kb, .int .u32 n]] w fun e w' => e = .returned (.bool (!d'.over)) ∧ ∃ vs', R8 rp cp hb vm 34 60 152 w' d' vs' steps 0 0 ∧ G8 rp 34 cp hb vm w w' := by
  have hlt := h.rlt
  have hcr := h.lt
  have hbm : Ints .u8 w vm d.m := h.core.bytes
  obtain ⟨am, cm, rfl, -⟩ := hbm.open
  obtain ⟨w1, hw1⟩ : ∃ w1, w1 = w.alloc (.cells #[.int .i64 op, .int .i64 kd, .int .i64 ka, .int .i64 kb, .int .u32 n] 133) := ⟨_, rfl⟩
  have hb1 : Below w.heap.size w w1 := by rw [hw1]; exact (by repeat (first | with_reducible exact Below.refl _ _ | with_reducible refine below_drewN ?_ _ | ((with_reducible refine Below.setCell ?_ ?hq _); case hq => (first | (simp; done) | (simp; omega))) | ((with_reducible refine Below.alloc ?_ ?hq _); case hq => (first | (simp; done) | (simp; omega)))))
  have hs1 : w1.heap.size = w.heap.size + 1 := by rw [hw1]; simp
  have c0 : (w1).cell? ⟨w.heap.size, 0, none⟩ = some (.int .i64 op) := by rw [hw1]; go_cell
  have c1 : (w1).cell? ⟨w.heap.size, 1, none⟩ = some (.int .i64 kd) := by rw [hw1]; go_cell
  have c2 : (w1).cell? ⟨w.heap.size, 2, none⟩ = some (.int .i64 ka) := by rw [hw1]; go_cell
  have c3 : (w1).cell? ⟨w.heap.size, 3, none⟩ = some (.int .i64 kb) := by rw [hw1]; go_cell
  have c4 : (w1).cell? ⟨w.heap.size, 4, none⟩ = some (.int .u32 n) := by rw [hw1]; go_cell
  have H1 := h.below hb1
  have HG1 : Hid (G8 rp 34 cp hb (.slice am d.m.length cm) w w1) := Lib.hid (G8.below hb1 h.clt)
  have HCL := Lib.hid H1.clt
  obtain ⟨hm1, hm2⟩ := named_at 400 s (by omega) (by omega) (by omega)
  rw [← hop] at hm1 hm2
  have hres : d.one ⟨op, kd, ka, kb, n⟩ steps = d.put kd (alu s (d.get ka) (d.get kb)) := by
    unfold RunD.one
    dsimp only
    rw [if_neg (by omega)]
    rw [if_neg (by omega)]
    rw [if_neg (by omega)]
    rw [if_neg (by omega)]
    rw [if_neg (by omega)]
    rw [if_neg (by omega)]
    rw [hm2, hm1]
    rw [if_neg (by omega)]
    rw [if_neg (by omega)]
    rw [if_neg (by omega)]
    rw [if_pos rfl]
    try simp only [Int.toNat_natCast]
  rw [hres] at hd'
  clear hres
  have HH1 := Lib.hid H1
  have HW1 := Lib.hid hw1
  have HPA := Lib.hid (fun W => parts_hi op 400 s W hop (by omega) (by omega) (by omega))
  have HGA := Lib.hid (fun nd => (get8_any (H1.below (below_drewN (Below.refl _ w1) nd)) ka hka).mono (R' := fun e w' => e = .returned (.int .u32 (d.get ka)) ∧ w1.drewN nd = w') (fun e w' h => ⟨h.1, h.2.symm⟩))
  have HGB := Lib.hid (fun nd => (get8_any (H1.below (below_drewN (Below.refl _ w1) nd)) kb hkb).mono (R' := fun e w' => e = .returned (.int .u32 (d.get kb)) ∧ w1.drewN nd = w') (fun e w' h => ⟨h.1, h.2.symm⟩))
  obtain ⟨a, ha⟩ : ∃ a, a = d.get ka := ⟨_, rfl⟩
  obtain ⟨b, hbb⟩ : ∃ b, b = d.get kb := ⟨_, rfl⟩
  have HUA : Hid (U32 a) := Lib.hid (by rw [ha]; exact get_u32 h.wf ka)
  have HUB : Hid (U32 b) := Lib.hid (by rw [hbb]; exact get_u32 h.wf kb)
  rw [← ha] at HGA hd'
  rw [← hbb] at HGB
  try rw [← hbb] at hd'
  have HAL := Lib.hid (fun nd => alu_any s a b (w1.drewN nd) HUA.out.1 (by have := HUA.out.2; omega) HUB.out.1 (by have := HUB.out.2; omega))
  have HPT := Lib.hid (fun W (hb : Below w1.heap.size w1 W) => put8_any (HH1.out.below hb) kd hkd (alu s a b) (alu_lo s a b HUA.out HUB.out))
  generalize alu s a b = x at *
  have HD := Lib.hid hd'
  clear hd' h H1 hb1 hw1 ha hbb hm1 hm2 hop
  go_enter Try.func115, Try.ntmps115
  go_upto_region 1 with (fail)
  rw [← HW1.out]
  go_wp2_with fail
  refine (HPA.out _).mono ?_
  rintro e w2 ⟨rfl, hww2⟩
  obtain rfl := hww2.symm
  go_upto_region 16 with (fail)
  refine region_quiet_tail (fun W => ∃ nd, W = w1.drewN nd) 13 (by kernel_rfl) (by kernel_rfl) ⟨1, rfl⟩ ?_
  simp only [List.take_succ_cons, List.take_zero, List.drop_succ_cons, List.drop_zero]
  iterate 13 quiet_step ((first | (go_at_call 124; with_reducible exact quiet_left (HGA.out _)) | (go_at_call 124; with_reducible exact quiet_left (HGB.out _)) | (go_at_call 17; exact quiet_more8 (HAL.out _))))
  refine wpQuiet_nil ?_
  rintro _ ⟨nd, rfl⟩
  go_wp2_with fail
  refine (HPT.out _ (below_drewN (Below.refl _ _) nd)).mono ?_
  rintro e w9 ⟨rfl, h9, g9⟩
  go_wp2_with fail
  go_ret
  have e := HD.out
  subst e
  refine ⟨ret_bool ?_, _, h9, HG1.out.trans ((G8.below (below_drewN (Below.refl _ _) _) HCL.out).trans g9)⟩
  rw [put_over, hov]; rfl
set_option maxRecDepth 100000 in
set_option maxHeartbeats 1000000 in
theorem one8_alun (h : R8 rp cp hb vm 34 60 152 w d vs steps 0 0) (op n : Int) (kd ka kb : Nat) (hkd : kd < 36) (hka : ka < 36) (hkb : kb < 36) (hn : U32 n) (hst : i64ok steps) (hds : 0 ≤ d.steps ∧ d.steps ≤ 100000) (hle : 0 ≤ steps - d.steps) (hsl : d.stores.length ≤ 100000) (hol : d.out.length ≤ 100000) (hov : d.over = false) (s : Int) (hop : op = 500 + s) (hs : 28 ≤ s ∧ s ≤ 45) (d' : RunD) (hd' : d' = d.one ⟨op, kd, ka, kb, n⟩ steps) :
    Calls Try.prog 115 #[.pointer (some ⟨rp, 0, none⟩), .agg #[.int .i64 op, .int .i64 kd, .int .i64 ka, .int .i64 kb, .int .u32 n]] w fun e w' => e = .returned (.bool (!d'.over)) ∧ ∃ vs', R8 rp cp hb vm 34 60 152 w' d' vs' steps 0 0 ∧ G8 rp 34 cp hb vm w w' := by
  have hlt := h.rlt
  have hcr := h.lt
  have hbm : Ints .u8 w vm d.m := h.core.bytes
  obtain ⟨am, cm, rfl, -⟩ := hbm.open
  obtain ⟨w1, hw1⟩ : ∃ w1, w1 = w.alloc (.cells #[.int .i64 op, .int .i64 kd, .int .i64 ka, .int .i64 kb, .int .u32 n] 133) := ⟨_, rfl⟩
  have hb1 : Below w.heap.size w w1 := by rw [hw1]; exact (by repeat (first | with_reducible exact Below.refl _ _ | with_reducible refine below_drewN ?_ _ | ((with_reducible refine Below.setCell ?_ ?hq _); case hq => (first | (simp; done) | (simp; omega))) | ((with_reducible refine Below.alloc ?_ ?hq _); case hq => (first | (simp; done) | (simp; omega)))))
  have hs1 : w1.heap.size = w.heap.size + 1 := by rw [hw1]; simp
  have c0 : (w1).cell? ⟨w.heap.size, 0, none⟩ = some (.int .i64 op) := by rw [hw1]; go_cell
  have c1 : (w1).cell? ⟨w.heap.size, 1, none⟩ = some (.int .i64 kd) := by rw [hw1]; go_cell
  have c2 : (w1).cell? ⟨w.heap.size, 2, none⟩ = some (.int .i64 ka) := by rw [hw1]; go_cell
  have c3 : (w1).cell? ⟨w.heap.size, 3, none⟩ = some (.int .i64 kb) := by rw [hw1]; go_cell
  have c4 : (w1).cell? ⟨w.heap.size, 4, none⟩ = some (.int .u32 n) := by rw [hw1]; go_cell
  have H1 := h.below hb1
  have HG1 : Hid (G8 rp 34 cp hb (.slice am d.m.length cm) w w1) := Lib.hid (G8.below hb1 h.clt)
  have HCL := Lib.hid H1.clt
  obtain ⟨hm1, hm2⟩ := named_at 500 s (by omega) (by omega) (by omega)
  rw [← hop] at hm1 hm2
  have hres : d.one ⟨op, kd, ka, kb, n⟩ steps = d.put kd (alu s (d.get ka) n) := by
    unfold RunD.one
    dsimp only
    rw [if_neg (by omega)]
    rw [if_neg (by omega)]
    rw [if_neg (by omega)]
    rw [if_neg (by omega)]
    rw [if_neg (by omega)]
    rw [if_neg (by omega)]
    rw [hm2, hm1]
    rw [if_neg (by omega)]
    rw [if_neg (by omega)]
    rw [if_neg (by omega)]
    rw [if_neg (by omega)]
    rw [if_pos rfl]
    try simp only [Int.toNat_natCast]
  rw [hres] at hd'
  clear hres
  have HH1 := Lib.hid H1
  have HW1 := Lib.hid hw1
  have HPA := Lib.hid (fun W => parts_hi op 500 s W hop (by omega) (by omega) (by omega))
  have HGA := Lib.hid (fun nd => (get8_any (H1.below (below_drewN (Below.refl _ w1) nd)) ka hka).mono (R' := fun e w' => e = .returned (.int .u32 (d.get ka)) ∧ w1.drewN nd = w') (fun e w' h => ⟨h.1, h.2.symm⟩))
  have HGB := Lib.hid (fun nd => (get8_any (H1.below (below_drewN (Below.refl _ w1) nd)) kb hkb).mono (R' := fun e w' => e = .returned (.int .u32 (d.get kb)) ∧ w1.drewN nd = w') (fun e w' h => ⟨h.1, h.2.symm⟩))
  obtain ⟨a, ha⟩ : ∃ a, a = d.get ka := ⟨_, rfl⟩
  obtain ⟨b, hbb⟩ : ∃ b, b = d.get kb := ⟨_, rfl⟩
  have HUA : Hid (U32 a) := Lib.hid (by rw [ha]; exact get_u32 h.wf ka)
  have HUB : Hid (U32 b) := Lib.hid (by rw [hbb]; exact get_u32 h.wf kb)
  rw [← ha] at HGA hd'
  rw [← hbb] at HGB
  try rw [← hbb] at hd'
  have HAL := Lib.hid (fun nd => alu_any s a n (w1.drewN nd) HUA.out.1 (by have := HUA.out.2; omega) hn.1 (by have := hn.2; omega))
  have HPT := Lib.hid (fun W (hb : Below w1.heap.size w1 W) => put8_any (HH1.out.below hb) kd hkd (alu s a n) (alu_lo s a n HUA.out hn))
  generalize alu s a n = x at *
  have HD := Lib.hid hd'
  clear hd' h H1 hb1 hw1 ha hbb hm1 hm2 hop
  go_enter Try.func115, Try.ntmps115
  go_upto_region 1 with (fail)
  rw [← HW1.out]
  go_wp2_with fail
  refine (HPA.out _).mono ?_
  rintro e w2 ⟨rfl, hww2⟩
  obtain rfl := hww2.symm
  go_upto_region 18 with (fail)
  refine region_quiet_tail (fun W => ∃ nd, W = w1.drewN nd) 11 (by kernel_rfl) (by kernel_rfl) ⟨1, rfl⟩ ?_
  simp only [List.take_succ_cons, List.take_zero, List.drop_succ_cons, List.drop_zero]
  iterate 11 quiet_step ((first | (go_at_call 124; with_reducible exact quiet_left (HGA.out _)) | (go_at_call 124; with_reducible exact quiet_left (HGB.out _)) | (go_at_call 17; exact quiet_more8 (HAL.out _))))
  refine wpQuiet_nil ?_
  rintro _ ⟨nd, rfl⟩
  go_wp2_with fail
  refine (HPT.out _ (below_drewN (Below.refl _ _) nd)).mono ?_
  rintro e w9 ⟨rfl, h9, g9⟩
  go_wp2_with fail
  go_ret
  have e := HD.out
  subst e
  refine ⟨ret_bool ?_, _, h9, HG1.out.trans ((G8.below (below_drewN (Below.refl _ _) _) HCL.out).trans g9)⟩
  rw [put_over, hov]; rfl
set_option maxRecDepth 100000 in
set_option maxHeartbeats 1000000 in
theorem one8_atom (h : R8 rp cp hb vm 34 60 152 w d vs steps 0 0) (op n : Int) (kd ka kb : Nat) (hkd : kd < 36) (hka : ka < 36) (hkb : kb < 36) (hn : U32 n) (hst : i64ok steps) (hds : 0 ≤ d.steps ∧ d.steps ≤ 100000) (hle : 0 ≤ steps - d.steps) (hsl : d.stores.length ≤ 100000) (hol : d.out.length ≤ 100000) (hov : d.over = false) (s : Int) (hop : op = 600 + s) (hs : 46 ≤ s ∧ s ≤ 56) (d' : RunD) (hd' : d' = d.one ⟨op, kd, ka, kb, n⟩ steps) :
    Calls Try.prog 115 #[.pointer (some ⟨rp, 0, none⟩), .agg #[.int .i64 op, .int .i64 kd, .int .i64 ka, .int .i64 kb, .int .u32 n]] w fun e w' => e = .returned (.bool (!d'.over)) ∧ ∃ vs', R8 rp cp hb vm 34 60 152 w' d' vs' steps 0 0 ∧ G8 rp 34 cp hb vm w w' := by
  have hlt := h.rlt
  have hcr := h.lt
  have hbm : Ints .u8 w vm d.m := h.core.bytes
  obtain ⟨am, cm, rfl, -⟩ := hbm.open
  obtain ⟨w1, hw1⟩ : ∃ w1, w1 = w.alloc (.cells #[.int .i64 op, .int .i64 kd, .int .i64 ka, .int .i64 kb, .int .u32 n] 133) := ⟨_, rfl⟩
  have hb1 : Below w.heap.size w w1 := by rw [hw1]; exact (by repeat (first | with_reducible exact Below.refl _ _ | with_reducible refine below_drewN ?_ _ | ((with_reducible refine Below.setCell ?_ ?hq _); case hq => (first | (simp; done) | (simp; omega))) | ((with_reducible refine Below.alloc ?_ ?hq _); case hq => (first | (simp; done) | (simp; omega)))))
  have hs1 : w1.heap.size = w.heap.size + 1 := by rw [hw1]; simp
  have c0 : (w1).cell? ⟨w.heap.size, 0, none⟩ = some (.int .i64 op) := by rw [hw1]; go_cell
  have c1 : (w1).cell? ⟨w.heap.size, 1, none⟩ = some (.int .i64 kd) := by rw [hw1]; go_cell
  have c2 : (w1).cell? ⟨w.heap.size, 2, none⟩ = some (.int .i64 ka) := by rw [hw1]; go_cell
  have c3 : (w1).cell? ⟨w.heap.size, 3, none⟩ = some (.int .i64 kb) := by rw [hw1]; go_cell
  have c4 : (w1).cell? ⟨w.heap.size, 4, none⟩ = some (.int .u32 n) := by rw [hw1]; go_cell
  have H1 := h.below hb1
  have HG1 : Hid (G8 rp 34 cp hb (.slice am d.m.length cm) w w1) := Lib.hid (G8.below hb1 h.clt)
  have HCL := Lib.hid H1.clt
  obtain ⟨hm1, hm2⟩ := named_at 600 s (by omega) (by omega) (by omega)
  rw [← hop] at hm1 hm2
  have hres : d.one ⟨op, kd, ka, kb, n⟩ steps = d.atom s kd ka kb := by
    unfold RunD.one
    dsimp only
    rw [if_neg (by omega)]
    rw [if_neg (by omega)]
    rw [if_neg (by omega)]
    rw [if_neg (by omega)]
    rw [if_neg (by omega)]
    rw [if_neg (by omega)]
    rw [hm2, hm1]
    rw [if_neg (by omega)]
    rw [if_neg (by omega)]
    rw [if_neg (by omega)]
    rw [if_neg (by omega)]
    rw [if_neg (by omega)]
    rw [if_pos rfl]
    try simp only [Int.toNat_natCast]
  rw [hres] at hd'
  clear hres
  have HH1 := Lib.hid H1
  have HW1 := Lib.hid hw1
  have HPA := Lib.hid (fun W => parts_hi op 600 s W hop (by omega) (by omega) (by omega))
  have HBY := Lib.hid (bytes8_atom H1 s op n kd ka kb hkd hka hkb hn hsl hov hs d' hd')
  clear hd' h H1 hb1 hw1 hm1 hm2 hop
  go_enter Try.func115, Try.ntmps115
  go_upto_region 1 with (fail)
  rw [← HW1.out]
  go_wp2_with fail
  refine (HPA.out _).mono ?_
  rintro e w2 ⟨rfl, hww2⟩
  obtain rfl := hww2.symm
  go_wp2_with fail
  refine HBY.out.mono ?_
  rintro e w9 ⟨rfl, vs', h9, g9⟩
  go_wp2_with fail
  go_ret
  exact ⟨rfl, _, h9, HG1.out.trans g9⟩
end
end Go.Proofs.Ytlfnddmncbkjaab.W

/- micro.Runner: Do, walked. -/
namespace Go.Proofs.Ytlfnddmncbkjaab.Fb
set_option linter.unusedVariables false
set_option linter.unusedSimpArgs false
open Go.RowKit
theorem call_steps (d : RunD) : d.call.steps = d.steps := by
  unfold RunD.call
  repeat' (refine ite_ind (P := fun x : RunD => x.steps = d.steps) (fun _ => ?_) (fun _ => ?_))
  all_goals rfl
theorem atom_steps (d : RunD) (op : Int) (kd ka kb : Nat) : (d.atom op kd ka kb).steps = d.steps := by
  unfold RunD.atom
  repeat' (refine ite_ind (P := fun x : RunD => x.steps = d.steps) (fun _ => ?_) (fun _ => ?_))
  all_goals first
    | rfl
    | exact (put_same _ _ _).1
theorem one_left (d : RunD) (m : MicD) (st : Int) (h : 0 ≤ st - d.steps) : 0 ≤ st - (d.one m st).steps := by
  by_cases c : m.op = 1
  · by_cases q : d.steps = st
    · have e : d.one m st = d.stop m.n := by unfold RunD.one; rw [if_pos c, if_pos (by simp [q])]
      rw [e]; exact h
    · have := (r7near_one d m st).s1
      omega
  · have e : (d.one m st).steps = d.steps := by
      unfold RunD.one
      rw [if_neg c]
      repeat' (refine ite_ind (P := fun x : RunD => x.steps = d.steps) (fun _ => ?_) (fun _ => ?_))
      all_goals first
        | rfl
        | exact (put_same _ _ _).1
        | exact call_steps d
        | exact atom_steps d _ _ _ _
    rw [e]; exact h
/-- a run begins -/
def RunD.begin (d : RunD) : RunD := { d with here := d.h.pc }
end Go.Proofs.Ytlfnddmncbkjaab.Fb
namespace Go.Proofs.Ytlfnddmncbkjaab.W
open Go.RowKit Fb
section
variable {rp cp hb : Nat} {vm : Value} {w : World} {d : RunD} {vs : Value} {steps fr tw : Int}
theorem one8_any (h : R8 rp cp hb vm 34 60 152 w d vs steps 0 0) (m : MicD) (hm : mayM m = true) (hn : U32 m.n) (hst : i64ok steps) (hds : 0 ≤ d.steps ∧ d.steps ≤ 100000) (hle : 0 ≤ steps - d.steps) (hsl : d.stores.length ≤ 100000) (hol : d.out.length ≤ 100000) (hov : d.over = false) :
    Calls Try.prog 115 #[.pointer (some ⟨rp, 0, none⟩), .agg (mlist m).toArray] w fun e w' => e = .returned (.bool (!(d.one m steps).over)) ∧ ∃ vs', R8 rp cp hb vm 34 60 152 w' (d.one m steps) vs' steps 0 0 ∧ G8 rp 34 cp hb vm w w' := by
  obtain ⟨r1, r2, r3⟩ := mayM_regs hm
  have hc := named_cls (mayM_named hm)
  obtain ⟨op, kd, ka, kb, n⟩ := m
  dsimp only at r1 r2 r3 hc hn
  obtain ⟨kd, rfl⟩ := Int.eq_ofNat_of_zero_le r1.1
  obtain ⟨ka, rfl⟩ := Int.eq_ofNat_of_zero_le r2.1
  obtain ⟨kb, rfl⟩ := Int.eq_ofNat_of_zero_le r3.1
  have hkd : kd < 36 := by omega
  have hka : ka < 36 := by omega
  have hkb : kb < 36 := by omega
  simp only [mlist]
  rcases hc with (e | e | e | e | e | e) | ⟨s, e, h1, h2⟩ | ⟨s, e, h1, h2⟩ | ⟨s, e, h1, h2⟩ | ⟨s, e, h1, h2⟩ | ⟨s, e, h1, h2⟩ | ⟨s, e, h1, h2⟩
  · exact one8_at h op n kd ka kb hkd hka hkb hn hst hds hle hsl hol hov e _ rfl
  · exact one8_set h op n kd ka kb hkd hka hkb hn hst hds hle hsl hol hov e _ rfl
  · exact one8_go h op n kd ka kb hkd hka hkb hn hst hds hle hsl hol hov e _ rfl
  · exact one8_reg h op n kd ka kb hkd hka hkb hn hst hds hle hsl hol hov e _ rfl
  · exact one8_call h op n kd ka kb hkd hka hkb hn hst hds hle hsl hol hov e _ rfl
  · exact one8_brk h op n kd ka kb hkd hka hkb hn hst hds hle hsl hol hov e _ rfl
  · exact one8_if h op n kd ka kb hkd hka hkb hn hst hds hle hsl hol hov s e ⟨h1, h2⟩ _ rfl
  · exact one8_load h op n kd ka kb hkd hka hkb hn hst hds hle hsl hol hov s e ⟨h1, h2⟩ _ rfl
  · exact one8_store h op n kd ka kb hkd hka hkb hn hst hds hle hsl hol hov s e ⟨h1, h2⟩ _ rfl
  · exact one8_alu h op n kd ka kb hkd hka hkb hn hst hds hle hsl hol hov s e ⟨h1, h2⟩ _ rfl
  · exact one8_alun h op n kd ka kb hkd hka hkb hn hst hds hle hsl hol hov s e ⟨h1, h2⟩ _ rfl
  · exact one8_atom h op n kd ka kb hkd hka hkb hn hst hds hle hsl hol hov s e ⟨h1, h2⟩ _ rfl
set_option maxRecDepth 100000 in
set_option maxHeartbeats 1600000 in
theorem do8_any (h : R8 rp cp hb vm 34 60 152 w d vs steps fr tw) (vc : Value) (code : List MicD) (hc : Sl w vc 5 code.length (code.flatMap mlist)) (hfar : ∀ b off n c, vc = .slice (some ⟨b, off, none⟩) n c → code ≠ [] → b < w.heap.size ∧ b ≠ hb ∧ vm.ownBlock ≠ some b ∧ (b < cp ∨ (cp < b ∧ b < rp ∧ ∀ cs f, w.heap[b]? ≠ some (.cells cs 34 f)))) (hmay : mayL code = true) (hok : ∀ x ∈ code, x.Ok)
    (hst : i64ok steps) (hds : 0 ≤ d.steps ∧ d.steps ≤ 50000) (hle : 0 ≤ steps - d.steps) (hsl : d.stores.length ≤ 50000) (hol : d.out.length ≤ 50000) (hov : d.over = false) (d' : RunD) (hd' : d' = (runL steps code d.begin).fin) :
    Calls Try.prog 85 #[.pointer (some ⟨rp, 0, none⟩), vc] w fun e w' => e = .returned (.tuple #[]) ∧ ∃ vs', R8 rp cp hb vm 34 60 152 w' d' vs' steps 0 0 ∧ G8 rp 34 cp hb vm w w' := by
  obtain ⟨ac, cc, rfl, hcc, hcm, -, ho⟩ := hc.open (fun _ _ => rfl) (by omega)
  unfold maxLen at hcm
  have hcl : code.length ≤ 200 := by unfold mayL at hmay; rw [Bool.and_eq_true, decide_eq_true_eq] at hmay; exact hmay.1
  have HO := Lib.hid ho
  have HFAR := Lib.hid hfar
  have HMAY := Lib.hid hmay
  have HOK := Lib.hid hok
  have HC := Lib.hid hc
  have g0 := h.at_.get (r8_head 0 (by omega))
  have g10 := h.at_.get (r8_end h.wf.tlen 0)
  have p0 : w.cell? ⟨cp, 0, none⟩ = some (.pointer (some ⟨hb, 0, none⟩)) := h.core.ptr
  have p3 : w.cell? ⟨cp, 3, none⟩ = some (.int .u32 fr) := h.core.fr
  have p4 : w.cell? ⟨cp, 4, none⟩ = some (.int .u32 tw) := h.core.tw
  have hpc := h.core.hart.get (hlist_pc h.wf.h)
  have f3 := h.core.frz 3
  have f4 := h.core.frz 4
  have f10 := h.frz 10
  have hlt := h.rlt
  have hcr := h.lt
  have hhc := h.core.hbl
  have hne1 : hb ≠ cp := by omega
  have hne2 : hb ≠ rp := by omega
  have hne3 : cp ≠ rp := by omega
  simp only [Nat.zero_add, Nat.reduceAdd] at g0 g10 hpc
  obtain ⟨pc, hpcd⟩ : ∃ pc, pc = d.h.pc := ⟨_, rfl⟩
  have hpc' : w.cell? ⟨hb, 32, none⟩ = some (.int .u32 pc) := by rw [hpcd]; exact hpc
  have HB := Lib.hid (fun n => by
    have H1 := (h.below (w' := w.drewN n) (below_drewN (Below.refl _ _) _)).setFrTo tyR tyS
    have H2 := H1.1.setCell (d' := d.begin) tyR 10 (by omega) (.int .u32 pc) (r8_setEnd (d := d) (d' := d.begin) (j := 0) h.wf.tlen rfl rfl rfl rfl (by rw [hpcd]; rfl)) rfl rfl rfl rfl { h.wf with here := h.wf.h.pc }
    exact And.intro H2 (((G8.below (rp := rp) (TU := 34) (cp := cp) (hb := hb) (vm := vm) (below_drewN (Below.refl _ w) n) h.clt).trans H1.2).trans (G8.set (Nat.le_of_lt h.lt) 10 (.int .u32 pc))))
  obtain ⟨d1, hd1⟩ : ∃ d1, d1 = d.begin := ⟨_, rfl⟩
  rw [← hd1] at HB hd'
  have HS1 : Hid (0 ≤ d1.steps ∧ d1.steps ≤ 50000 ∧ 0 ≤ steps - d1.steps ∧ d1.stores.length ≤ 50000 ∧ d1.out.length ≤ 50000 ∧ d1.over = false) := Lib.hid (by rw [hd1]; exact ⟨hds.1, hds.2, hle, hsl, hol, hov⟩)
  have HD := Lib.hid hd'
  clear h ho hfar hmay hok hc hpc hpcd hd1 hd' hds hle hsl hol hov
  go_enter Try.func85, Try.ntmps85
  go_upto_region 0 with (fail)
  go_region
  obtain ⟨w1, hw1⟩ : ∃ w1, w1 = (((w.setCell ⟨cp, 3, none⟩ (.int .u32 0)).setCell ⟨cp, 4, none⟩ (.int .u32 0)).setCell ⟨rp, 10, none⟩ (.int .u32 pc)).drew := ⟨_, rfl⟩
  have HI1 : Hid (R8 rp cp hb vm 34 60 152 w1 d1 vs steps 0 0 ∧ G8 rp 34 cp hb vm w w1) := Lib.hid (by rw [hw1]; exact HB.out 1)
  rw [← hw1]
  clear hw1 HB g0 g10 p0 p3 p4 hpc' f3 f4 f10
  go_wp2_with fail
  go_loopw [33] (fun i wr => ∃ k : Nat, i = .int .i64 k ∧ k ≤ code.length ∧ ∃ (e : RunD) (us : Value), Hid (R8 rp cp hb vm 34 60 152 wr e us steps 0 0 ∧ G8 rp 34 cp hb vm w wr ∧ runL steps (code.drop k) e = runL steps code d1 ∧ e.over = false ∧ 0 ≤ e.steps ∧ e.steps ≤ 50000 + (k : Int) ∧ 0 ≤ steps - e.steps ∧ e.stores.length ≤ 50000 + k ∧ e.out.length ≤ 50000 + k)) (fun i _ => code.length - (intOf i).toNat)
  case atStart => exact ⟨0, rfl, by omega, d1, vs, Lib.hid ⟨HI1.out.1, HI1.out.2, by simp, HS1.out.2.2.2.2.2, HS1.out.1, by have := HS1.out.2.1; omega, HS1.out.2.2.1, by have := HS1.out.2.2.2.1; omega, by have := HS1.out.2.2.2.2.1; omega⟩⟩
  case round =>
    obtain ⟨k, rfl, hk, e, us, HI⟩ := hrel
    by_cases hlt : k < code.length
    · have i1 : (k : Int) < (code.length : Int) := by omega
      have i0 : (0 : Int) ≤ (k : Int) := by omega
      obtain ⟨b, off, rfl, hbl, hel⟩ := HO.out (by intro e; rw [e] at hlt; simp at hlt)
      obtain ⟨q1, q2, q3, q4⟩ := HFAR.out b off _ _ rfl (by intro e; rw [e] at hlt; simp at hlt)
      have hbk := HI.out.2.1.block b q1 q2 q3 q4
      have hat : At wr b (off + k * 5) (mlist code[k]) := fun j hj => (cell_block hbk _).trans (hel k hlt j hj)
      have hmm : mayM code[k] = true := by
        have := HMAY.out
        unfold mayL at this
        rw [Bool.and_eq_true, List.all_eq_true] at this
        exact this.2 _ (List.getElem_mem hlt)
      have hmk := (HOK.out code[k] (List.getElem_mem hlt)).n
      have hrl : runL steps (code.drop k) e = runL steps (code.drop (k + 1)) (e.one code[k] steps) := by
        rw [List.drop_eq_getElem_cons hlt, runL, if_neg (by rw [HI.out.2.2.2.1]; simp)]
      have hnr := r7near_one e code[k] steps
      have hol1 := one_left e code[k] steps HI.out.2.2.2.2.2.2.1
      obtain ⟨mm, hmmd⟩ : ∃ mm, mm = code[k] := ⟨_, rfl⟩
      rw [← hmmd] at hat hmm hmk hrl hnr hol1
      clear hmmd hel q2 q3 q4 hbk
      obtain ⟨op, kd, ka, kb, n⟩ := mm
      have HON := Lib.hid (fun W (hW : Below wr.heap.size wr W) => one8_any (HI.out.1.below hW) ⟨op, kd, ka, kb, n⟩ hmm hmk hst ⟨HI.out.2.2.2.2.1, by have := HI.out.2.2.2.2.2.1; omega⟩ HI.out.2.2.2.2.2.2.1 (by have := HI.out.2.2.2.2.2.2.2.1; omega) (by have := HI.out.2.2.2.2.2.2.2.2; omega) HI.out.2.2.2.1)
      have HON' : Hid (∀ W, Below wr.heap.size wr W → Calls Try.prog 115 #[.pointer (some ⟨rp, 0, none⟩), .agg #[.int .i64 op, .int .i64 kd, .int .i64 ka, .int .i64 kb, .int .u32 n]] W fun x w' => x = .returned (.bool (!(e.one ⟨op, kd, ka, kb, n⟩ steps).over)) ∧ ∃ vs', R8 rp cp hb vm 34 60 152 w' (e.one ⟨op, kd, ka, kb, n⟩ steps) vs' steps 0 0 ∧ G8 rp 34 cp hb vm W w') := Lib.hid HON.out
      have e0 := hat.get (j := 0) (v := .int .i64 op) rfl
      have e1 := hat.get (j := 1) (v := .int .i64 kd) rfl
      have e2 := hat.get (j := 2) (v := .int .i64 ka) rfl
      have e3 := hat.get (j := 3) (v := .int .i64 kb) rfl
      have e4 := hat.get (j := 4) (v := .int .u32 n) rfl
      simp only [Nat.add_zero] at e0
      have HNR := Lib.hid (And.intro hnr hol1)
      have HRL := Lib.hid hrl
      obtain ⟨w5, hw5⟩ : ∃ w5, w5 = wr.alloc (.cells #[.int .i64 op, .int .i64 kd, .int .i64 ka, .int .i64 kb, .int .u32 n] 133) := ⟨_, rfl⟩
      have HB5 : Hid (Below wr.heap.size wr w5) := Lib.hid (by rw [hw5]; exact (by repeat (first | with_reducible exact Below.refl _ _ | with_reducible refine below_drewN ?_ _ | ((with_reducible refine Below.setCell ?_ ?hq _); case hq => (first | (simp; done) | (simp; omega))) | ((with_reducible refine Below.alloc ?_ ?hq _); case hq => (first | (simp; done) | (simp; omega))))))
      have HW5 := Lib.hid hw5
      have hclt := HI.out.1.clt
      obtain ⟨ov, hov⟩ : ∃ ov, ov = (e.one ⟨op, kd, ka, kb, n⟩ steps).over := ⟨_, rfl⟩
      rw [← hov] at HON'
      have HOV := Lib.hid hov
      clear HON hat hmm hmk hrl hnr hw5 hol1 hov
      go_upto_region 4 with (fail)
      rw [← HW5.out]
      have g0 : (w5).cell? ⟨wr.heap.size, 0, none⟩ = some (.int .i64 op) := by rw [HW5.out]; go_cell
      have g1 : (w5).cell? ⟨wr.heap.size, 1, none⟩ = some (.int .i64 kd) := by rw [HW5.out]; go_cell
      have g2 : (w5).cell? ⟨wr.heap.size, 2, none⟩ = some (.int .i64 ka) := by rw [HW5.out]; go_cell
      have g3 : (w5).cell? ⟨wr.heap.size, 3, none⟩ = some (.int .i64 kb) := by rw [HW5.out]; go_cell
      have g4 : (w5).cell? ⟨wr.heap.size, 4, none⟩ = some (.int .u32 n) := by rw [HW5.out]; go_cell
      go_wp2_with fail
      refine (HON'.out w5 HB5.out).mono ?_
      rintro x w9 ⟨rfl, vs', h9, g9⟩
      have HN := Lib.hid (And.intro h9 (HI.out.2.1.trans ((G8.below HB5.out hclt).trans g9)))
      clear h9 g9 g0 g1 g2 g3 g4 e0 e1 e2 e3 e4
      cases ov with
      | true =>
        go_wp2_with fail
        refine bodyPost_ret (results_none (by rfl) _ _ _) rfl ?_
        have e1 : runL steps code d1 = e.one ⟨op, kd, ka, kb, n⟩ steps := by
          rw [← HI.out.2.2.1, HRL.out, runL_over HOV.out.symm]
        have e2 : d' = e.one ⟨op, kd, ka, kb, n⟩ steps := by
          rw [HD.out, e1]
          unfold RunD.fin
          rw [if_neg (by rw [← HOV.out]; simp)]
        rw [e2]
        first
          | exact ⟨rfl, vs', HN.out.1, HN.out.2⟩
          | exact ⟨rfl, ⟨vs', HN.out.1⟩, HN.out.2⟩
      | false =>
        have HN9 : Hid (R8 rp cp hb vm 34 60 152 w9 (e.one ⟨op, kd, ka, kb, n⟩ steps) vs' steps 0 0 ∧ G8 rp 34 cp hb vm w w9 ∧ runL steps (code.drop (k + 1)) (e.one ⟨op, kd, ka, kb, n⟩ steps) = runL steps code d1 ∧ (e.one ⟨op, kd, ka, kb, n⟩ steps).over = false ∧ 0 ≤ (e.one ⟨op, kd, ka, kb, n⟩ steps).steps ∧ (e.one ⟨op, kd, ka, kb, n⟩ steps).steps ≤ 50000 + ((k + 1 : Nat) : Int) ∧ 0 ≤ steps - (e.one ⟨op, kd, ka, kb, n⟩ steps).steps ∧ (e.one ⟨op, kd, ka, kb, n⟩ steps).stores.length ≤ 50000 + (k + 1) ∧ (e.one ⟨op, kd, ka, kb, n⟩ steps).out.length ≤ 50000 + (k + 1)) := Lib.hid ⟨HN.out.1, HN.out.2, by rw [← HRL.out]; exact HI.out.2.2.1, HOV.out.symm, by have := HNR.out.1.s0; have := HI.out.2.2.2.2.1; omega, by have := HNR.out.1.s1; have := HI.out.2.2.2.2.2.1; omega, HNR.out.2, by have := HNR.out.1.st; have := HI.out.2.2.2.2.2.2.2.1; omega, by have := HNR.out.1.ou; have := HI.out.2.2.2.2.2.2.2.2; omega⟩
        go_wp2_with fail
        go_roundw
        case rel => exact ⟨k + 1, by simp, by omega, _, _, HN9⟩
        case measure => simp [intOf]; omega
    · have i1 : ¬ (k : Int) < (code.length : Int) := by omega
      have hfin : runL steps code d1 = e := by
        rw [← HI.out.2.2.1, List.drop_of_length_le (by omega)]; rfl
      have h5 := HI.out.1
      have k4 := h5.at_.get (r8_head 4 (by omega))
      have k0 := h5.at_.get (r8_head 0 (by omega))
      have k10 := h5.at_.get (r8_end h5.wf.tlen 0)
      have p0 : wr.cell? ⟨cp, 0, none⟩ = some (.pointer (some ⟨hb, 0, none⟩)) := h5.core.ptr
      have hpc := h5.core.hart.get (hlist_pc h5.wf.h)
      have f32 := h5.core.hfz 32
      simp only [Nat.zero_add, Nat.reduceAdd] at k0 k4 k10 hpc
      obtain ⟨ds, hds⟩ : ∃ ds, ds = e.steps := ⟨_, rfl⟩
      have k4' : wr.cell? ⟨rp, 4, none⟩ = some (.int .i64 ds) := by rw [hds]; exact k4
      have k10' : wr.cell? ⟨rp, 10, none⟩ = some (.int .u32 e.here) := k10
      by_cases hpos : 0 < e.steps
      · have hp1 : decide (0 < ds) = true := by rw [hds]; exact decide_eq_true hpos
        have hp2 : 0 < ds := by rw [hds]; exact hpos
        have he2 : d' = { e with h := e.h.setPc (Fb.u32 (e.here + 4)) } := by rw [HD.out, hfin]; unfold RunD.fin; rw [if_pos ⟨HI.out.2.2.2.1, hpos⟩]
        obtain ⟨np, hnp⟩ : ∃ np, np = (e.here + 4) % 4294967296 := ⟨_, rfl⟩
        have hunp : U32 np := by rw [hnp]; exact u32_ok _
        have HS := Lib.hid (fun n => by
          have H2 := r8_setHart (h5.below (w' := wr.drewN n) (below_drewN (Below.refl _ _) _)) 32 (by omega) (.int .u32 np) (e.h.setPc np) (hlist_setPc h5.wf.h.len np) { h5.wf.h with pc := hunp }
          exact And.intro H2.1 ((HI.out.2.1.trans (G8.below (below_drewN (Below.refl _ wr) n) h5.clt)).trans H2.2))
        have HE : Hid (d' = { e with h := e.h.setPc np }) := Lib.hid (by rw [he2, hnp]; rfl)
        have HNP := Lib.hid hnp
        clear hfin hds hpos he2 hnp hunp h5 k4 k10 HO HFAR HMAY HOK HC
        go_upto_region 7 with (fail)
        go_region
        all_goals
          rw [← HNP.out]
          go_wp2_with fail
          go_end0
          first
            | exact ⟨rfl, us, by rw [HE.out]; exact (HS.out 1).1, (HS.out 1).2⟩
            | exact ⟨rfl, ⟨us, by rw [HE.out]; exact (HS.out 1).1⟩, (HS.out 1).2⟩
      · have hp1 : decide (0 < ds) = false := by rw [hds]; exact decide_eq_false hpos
        have hp2 : ¬ 0 < ds := by rw [hds]; exact hpos
        have HE : Hid (d' = e) := Lib.hid (by rw [HD.out, hfin]; unfold RunD.fin; rw [if_neg (fun x => hpos x.2)])
        clear hfin hds hpos h5 k4 k10
        go_wp2_with fail
        go_end0
        first
          | exact ⟨rfl, us, by rw [HE.out]; exact HI.out.1, HI.out.2.1⟩
          | exact ⟨rfl, ⟨us, by rw [HE.out]; exact HI.out.1⟩, HI.out.2.1⟩
end
end Go.Proofs.Ytlfnddmncbkjaab.W
