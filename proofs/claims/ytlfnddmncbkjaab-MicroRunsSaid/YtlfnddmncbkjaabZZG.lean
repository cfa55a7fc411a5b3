/- micro.Runner: bytes, walked by kind. -/
import Derived.Test.YtlfnddmncbkjaabZZF
import Derived.Test.YtlfnddmncbkjaabZZE
import Derived.Test.YtlfnddmncbkjaabZMA
import Derived.Test.YtlfnddmncbkjaabZZD
import Derived.Test.YtlfnddmncbkjaabZZK
namespace Go.Proofs.Ytlfnddmncbkjaab.Fb
set_option linter.unusedVariables false
set_option linter.unusedSimpArgs false
open Go.RowKit
/-- a run, its core anew -/
def RunD.ofC (d : RunD) (c : CoreD) : RunD := { d with h := c.h, m := c.m, out := c.out }
/-- what was just stored in is taken in -/
def RunD.takeC (d : RunD) (c : CoreD) : RunD := if c.fr < c.tw then { d with stores := d.stores ++ [(c.fr, c.tw)], own := d.own || (decide (d.bf < d.bt) && decide (c.fr < d.bt) && decide (d.bf < c.tw)) } else d
theorem takeC_over (d : RunD) (c : CoreD) : (d.takeC c).over = d.over := by unfold RunD.takeC; split <;> rfl
theorem put_over (d : RunD) (k : Nat) (x : Int) : (d.put k x).over = d.over := by unfold RunD.put; split <;> rfl
section
variable {rp cp hb : Nat} {vm : Value} {TU TS TR : TypeId} {w w' : World} {d : RunD} {vs : Value} {steps fr tw : Int}
theorem R8.cwf (h : R8 rp cp hb vm TU TS TR w d vs steps fr tw) : (d.core fr tw).Wf := ⟨h.wf.h, h.wf.m, h.wf.out, h.ufr, h.utw, h.wf.mlen, h.olen⟩
theorem R8.ofC (h : R8 rp cp hb vm TU TS TR w d vs steps fr tw) {c : CoreD} (hc : CoreAt cp hb 0 vm TU w' c) (hg : Cgo cp hb 0 vm TU w w') (hR : TR ≠ TU) (hS : TS ≠ TU) (wf : c.Wf) (hm : c.m.length ≤ 4096) : R8 rp cp hb vm TU TS TR w' (d.ofC c) vs steps c.fr c.tw :=
  h.cgo (d' := d.ofC c) (fr' := c.fr) (tw' := c.tw) hc hg hR hS { h.wf with h := wf.h, m := wf.m, mlen := wf.mlen, out := wf.out } wf.olen hm wf.fr wf.tw rfl rfl rfl rfl rfl rfl rfl
theorem put_core {op at_ x : Int} (hl : d.m.length ≤ 4096) (ha : U32 at_) (hq : mStoreOk d.m op at_ = true) : (d.core fr tw).put op at_ x = { (d.core fr tw) with m := mStore d.m op at_ x, fr := at_, tw := at_ + msize op } ∧ at_ < at_ + msize op ∧ hits at_ d.bf d.bt (msize op).toNat = (decide (d.bf < d.bt) && decide (at_ < d.bt) && decide (d.bf < at_ + msize op)) ∧ u32 (at_ + (msize op).toNat) = at_ + msize op := by
  obtain ⟨h1, h2, h3⟩ : 0 < msize op ∧ msize op ≤ 4 ∧ at_ + msize op ≤ d.m.length := by
    unfold mStoreOk there at hq
    simp only [Bool.and_eq_true, decide_eq_true_eq] at hq
    refine ⟨hq.2.1.1, ?_, hq.2.2⟩
    unfold msize; repeat' split
    all_goals omega
  have hn : ((msize op).toNat : Int) = msize op := Int.toNat_of_nonneg (by omega)
  refine ⟨?_, by omega, ?_, by rw [hn]; unfold u32; have := ha.1; omega⟩
  · unfold CoreD.put
    rw [if_pos (show mStoreOk (d.core fr tw).m op at_ = true from hq)]
    show ({ (d.core fr tw) with m := mStore d.m op at_ x, fr := at_, tw := (at_ + msize op) % 4294967296 } : CoreD) = _
    rw [Int.emod_eq_of_lt (by have := ha.1; omega) (by omega)]
  · have := hits_ends (bf := d.bf) (bt := d.bt) ha.1 (show 0 < (msize op).toNat by omega) (by omega)
    rw [this, hn]
theorem takeC_hit {e : RunD} {c : CoreD} {op a : Int} (hf : c.fr = a) (ht : c.tw = a + msize op) (h2 : a < a + msize op) (h3 : hits a e.bf e.bt (msize op).toNat = (decide (e.bf < e.bt) && decide (a < e.bt) && decide (e.bf < a + msize op))) (h4 : u32 (a + (msize op).toNat) = a + msize op) : e.takeC c = e.stored a (msize op).toNat := by
  unfold RunD.takeC RunD.stored
  rw [hf, ht, if_pos h2, h3, h4]
theorem store_take {op at_ x : Int} (hl : d.m.length ≤ 4096) (ha : U32 at_) (hq : mStoreOk d.m op at_ = true) : (d.ofC ((d.core fr tw).put op at_ x)).takeC ((d.core fr tw).put op at_ x) = (d.mem op at_ x).stored at_ (msize op).toNat := by
  obtain ⟨e1, e2, e3, e4⟩ := put_core (fr := fr) (tw := tw) (x := x) hl ha hq
  rw [e1]
  exact takeC_hit (op := op) (a := at_) (e := d.mem op at_ x) rfl rfl e2 e3 e4
theorem put_take (d : RunD) (c : CoreD) (k : Nat) (x : Int) : (d.put k x).takeC c = (d.takeC c).put k x := by
  unfold RunD.put RunD.takeC
  split <;> split <;> rfl
theorem atom_take {op : Int} {kd ka kb : Nat} (hl : d.m.length ≤ 4096) (ha : U32 (d.get ka)) (hok : (atomS (d.core 0 0) op (d.get ka) (d.get kb)).2.2 = true) :
    ((d.ofC (atomS (d.core 0 0) op (d.get ka) (d.get kb)).1).put kd (atomS (d.core 0 0) op (d.get ka) (d.get kb)).2.1).takeC (atomS (d.core 0 0) op (d.get ka) (d.get kb)).1 = d.atom op kd ka kb := by
  rw [put_take]
  unfold RunD.atom
  unfold atomS at hok ⊢
  have em : (d.core 0 0).m = d.m := rfl
  have eh : (d.core 0 0).h = d.h := rfl
  rw [em, eh] at hok ⊢
  have key : mLoadOk d.m 13 (d.get ka) = true → mStoreOk d.m 18 (d.get ka) = true := fun h => h
  generalize d.get kb = b at *
  by_cases c1 : mLoadOk d.m 13 (d.get ka) = true
  · have hq := key c1
    rw [if_pos c1]
    simp only [if_pos c1]
    have hst := fun x => store_take (d := d) (fr := 0) (tw := 0) (x := x) hl ha hq
    generalize d.get ka = a at *
    by_cases c2 : op = 46
    · simp only [if_pos c2]
      have e : (d.ofC ((d.core 0 0).hold true a)).takeC ((d.core 0 0).hold true a) = d.hold true a := by unfold RunD.takeC; rw [if_neg (by show ¬ (0 : Int) < 0; omega)]; rfl
      rw [e]
    · simp only [if_neg c2]
      by_cases c3 : op = 47
      · simp only [if_pos c3]
        by_cases c4 : (d.h.held && d.h.heldAt == a) = true
        · simp only [if_pos c4]
          have e : (d.ofC (((d.core 0 0).put 18 a b).hold false 0)).takeC (((d.core 0 0).put 18 a b).hold false 0) = ((d.hold false 0).mem 18 a b).stored a 4 := by
            obtain ⟨e1, e2, e3, e4⟩ := put_core (d := d) (fr := 0) (tw := 0) (x := b) hl ha hq
            rw [e1]
            exact takeC_hit (op := 18) (a := a) (e := (d.hold false 0).mem 18 a b) rfl rfl e2 e3 e4
          rw [e]
        · simp only [if_neg c4]
          have e : (d.ofC ((d.core 0 0).hold false 0)).takeC ((d.core 0 0).hold false 0) = d.hold false 0 := by unfold RunD.takeC; rw [if_neg (by show ¬ (0 : Int) < 0; omega)]; rfl
          rw [e]
      · simp only [if_neg c3]
        rw [hst]
        rfl
  · simp only [if_neg c1] at hok
    exact absurd hok (by decide)
theorem atom_no_fr {op a b : Int} (hok : (atomS (d.core 0 0) op a b).2.2 = false) : (atomS (d.core 0 0) op a b).1.fr = 0 ∧ (atomS (d.core 0 0) op a b).1.tw = 0 := by
  unfold atomS at hok ⊢
  by_cases c1 : mLoadOk (d.core 0 0).m 13 a = true
  · simp only [if_pos c1] at hok
    split at hok
    · cases hok
    · split at hok
      · split at hok <;> cases hok
      · cases hok
  · simp only [if_neg c1]
    exact ⟨rfl, rfl⟩
theorem atom_no {op : Int} {kd ka kb : Nat} (hok : (atomS (d.core 0 0) op (d.get ka) (d.get kb)).2.2 = false) : d.atom op kd ka kb = (d.ofC (atomS (d.core 0 0) op (d.get ka) (d.get kb)).1).stop d.here := by
  unfold RunD.atom
  unfold atomS at hok ⊢
  have em : (d.core 0 0).m = d.m := rfl
  rw [em] at hok ⊢
  by_cases c1 : mLoadOk d.m 13 (d.get ka) = true
  · simp only [if_pos c1] at hok
    split at hok
    · cases hok
    · split at hok
      · split at hok <;> cases hok
      · cases hok
  · rw [if_neg c1]
    simp only [if_neg c1]
    rfl
end
end Go.Proofs.Ytlfnddmncbkjaab.Fb
namespace Go.Proofs.Ytlfnddmncbkjaab.W
open Go.RowKit Fb
section
variable {rp cp hb : Nat} {vm : Value} {w : World} {d : RunD} {vs : Value} {steps fr tw : Int}
theorem stored8_any (h : R8 rp cp hb vm 34 60 152 w d vs steps fr tw) (c : CoreD) (hf : c.fr = fr) (ht : c.tw = tw) (hl : d.stores.length ≤ 100000) :
    Calls Try.prog 132 #[.pointer (some ⟨rp, 0, none⟩)] w fun e w' => e = .returned (.tuple #[]) ∧ ∃ vs', R8 rp cp hb vm 34 60 152 w' (d.takeC c) vs' steps 0 0 ∧ G8 rp 34 cp hb vm w w' := by
  subst hf ht
  by_cases q : c.fr < c.tw
  · have e : d.takeC c = { d with stores := d.stores ++ [(c.fr, c.tw)], own := d.own || (decide (d.bf < d.bt) && decide (c.fr < d.bt) && decide (d.bf < c.tw)) } := by unfold RunD.takeC; rw [if_pos q]
    rw [e]
    exact stored8_yes h q hl
  · have e : d.takeC c = d := by unfold RunD.takeC; rw [if_neg q]
    rw [e]
    exact (stored8_no h q).mono fun _ _ ⟨h1, h2, h3⟩ => ⟨h1, _, h2, h3⟩
end
end Go.Proofs.Ytlfnddmncbkjaab.W

/- micro.Runner: bytes, walked by kind. -/
namespace Go.Proofs.Ytlfnddmncbkjaab.Fb
set_option linter.unusedVariables false
set_option linter.unusedSimpArgs false
theorem put_ml8 (d : CoreD) (op a x : Int) : (d.put op a x).m.length = d.m.length := by
  unfold CoreD.put
  split
  · exact mStore_length _ _ _ _
  · rfl
theorem atomS_ml8 (d : CoreD) (op a b : Int) : (atomS d op a b).1.m.length = d.m.length := by
  unfold atomS
  split
  · split
    · rfl
    · split
      · split
        · exact put_ml8 d 18 a b
        · rfl
      · exact put_ml8 d 18 a _
  · rfl
end Go.Proofs.Ytlfnddmncbkjaab.Fb
namespace Go.Proofs.Ytlfnddmncbkjaab.W
open Go.RowKit Fb
section
variable {rp cp hb : Nat} {vm : Value} {w : World} {d : RunD} {vs : Value} {steps : Int}
set_option maxRecDepth 100000 in
set_option maxHeartbeats 1000000 in
theorem bytes8_load (h : R8 rp cp hb vm 34 60 152 w d vs steps 0 0) (s op n : Int) (kd ka kb : Nat) (hkd : kd < 36) (hka : ka < 36) (hkb : kb < 36) (hn : U32 n) (hsl : d.stores.length ≤ 100000) (hov : d.over = false) (hs : 11 ≤ s ∧ s ≤ 15) (d' : RunD) (hd' : d' = (if mLoadOk d.m s (u32 (d.get ka + n)) = true then d.put kd (mLoad d.m s (u32 (d.get ka + n))) else d.trap 3)) :
    Calls Try.prog 127 #[.pointer (some ⟨rp, 0, none⟩), .int .i64 200, .int .i64 s, .agg #[.int .i64 op, .int .i64 kd, .int .i64 ka, .int .i64 kb, .int .u32 n]] w fun e w' => e = .returned (.bool (!d'.over)) ∧ ∃ vs', R8 rp cp hb vm 34 60 152 w' d' vs' steps 0 0 ∧ G8 rp 34 cp hb vm w w' := by
  have hlt := h.rlt
  have hcr := h.lt
  have hbm : Ints .u8 w vm d.m := h.core.bytes
  obtain ⟨am, cm, rfl, -⟩ := hbm.open
  obtain ⟨w1, hw1⟩ : ∃ w1, w1 = w.alloc (.cells #[.int .i64 op, .int .i64 kd, .int .i64 ka, .int .i64 kb, .int .u32 n] 133) := ⟨_, rfl⟩
  have hb1 : Below w.heap.size w w1 := by rw [hw1]; exact (by repeat (first | with_reducible exact Below.refl _ _ | with_reducible refine below_drewN ?_ _ | ((with_reducible refine Below.setCell ?_ ?hq _); case hq => (first | (simp; done) | (simp; omega))) | ((with_reducible refine Below.alloc ?_ ?hq _); case hq => (first | (simp; done) | (simp; omega)))))
  have hs1 : w1.heap.size = w.heap.size + 1 := by rw [hw1]; simp
  have c0 : (w1).cell? ⟨w.heap.size, 0, none⟩ = some (.int .i64 op) := by rw [hw1]; go_cell
  have c1 : (w1).cell? ⟨w.heap.size, 1, none⟩ = some (.int .i64 kd) := by rw [hw1]; go_cell
  have c2 : (w1).cell? ⟨w.heap.size, 2, none⟩ = some (.int .i64 ka) := by rw [hw1]; go_cell
  have c3 : (w1).cell? ⟨w.heap.size, 3, none⟩ = some (.int .i64 kb) := by rw [hw1]; go_cell
  have c4 : (w1).cell? ⟨w.heap.size, 4, none⟩ = some (.int .u32 n) := by rw [hw1]; go_cell
  have H1 := h.below hb1
  have HG1 : Hid (G8 rp 34 cp hb (.slice am d.m.length cm) w w1) := Lib.hid (G8.below hb1 h.clt)
  have HGA := Lib.hid (get8_any H1 ka hka)
  have HGB := Lib.hid (fun nd => (get8_any (H1.below (below_drewN (Below.refl _ w1) nd)) kb hkb).mono (R' := fun e w' => e = .returned (.int .u32 (d.get kb)) ∧ w1.drewN nd = w') (fun e w' h => ⟨h.1, h.2.symm⟩))
  obtain ⟨a, ha⟩ : ∃ a, a = d.get ka := ⟨_, rfl⟩
  obtain ⟨b, hbb⟩ : ∃ b, b = d.get kb := ⟨_, rfl⟩
  have hua : U32 a := by rw [ha]; exact get_u32 h.wf ka
  have hub : U32 b := by rw [hbb]; exact get_u32 h.wf kb
  rw [← ha] at HGA
  rw [← hbb] at HGB
  have g0 := H1.at_.get (r8_head 0 (by omega))
  have g10 := H1.at_.get (r8_end H1.wf.tlen 0)
  have p1 : w1.cell? ⟨cp, 1, none⟩ = some (.slice am d.m.length cm) := H1.core.mem
  simp only [Nat.zero_add, Nat.reduceAdd] at g0 g10
  have HH1 := Lib.hid H1
  have HW1 := Lib.hid hw1
  have hu32 : ∀ x, u32 x = x % 4294967296 := fun x => rfl
  rw [← ha] at hd'
  simp only [hu32] at hd'
  have huq : U32 ((a + n) % 4294967296) := u32_ok _
  have HLD := Lib.hid (fun nd => load_any (.slice am d.m.length cm) d.m s ((a + n) % 4294967296) (w1.drewN nd) (H1.below (below_drewN (Below.refl _ w1) nd)).core.bytes huq H1.wf.m.getD)
  have hux : U32 (mLoad d.m s ((a + n) % 4294967296)) := mLoad_u d.m s _ hs huq H1.wf.m.getD
  obtain ⟨x, hx⟩ : ∃ x, x = mLoad d.m s ((a + n) % 4294967296) := ⟨_, rfl⟩
  obtain ⟨ok, hok⟩ : ∃ ok, ok = mLoadOk d.m s ((a + n) % 4294967296) := ⟨_, rfl⟩
  rw [← hx] at hux
  rw [← hx, ← hok] at HLD hd'
  have HPT := Lib.hid (fun W (hb : Below w1.heap.size w1 W) => put8_any (HH1.out.below hb) kd hkd x hux)
  have HTR := Lib.hid (fun W (hb : Below w1.heap.size w1 W) => trap8_any (HH1.out.below hb) 3 ⟨by omega, by omega⟩)
  have po := (put_over d kd x).trans hov
  obtain ⟨dp, hdp⟩ : ∃ dp, dp = d.put kd x := ⟨_, rfl⟩
  obtain ⟨dt, hdt⟩ : ∃ dt, dt = d.trap 3 := ⟨_, rfl⟩
  have pt : dt.over = true := by rw [hdt]; rfl
  rw [← hdp] at HPT po hd'
  rw [← hdt] at HTR hd'
  have HD := Lib.hid hd'
  have HCL := Lib.hid H1.clt
  clear ha hbb hd' hdp hdt hx hok hux huq h H1 hb1 hw1 c0 c3 hu32
  go_enter Try.func127, Try.ntmps127
  go_upto_region 1 with (fail)
  rw [← HW1.out]
  go_wp2_with fail
  refine HGA.out.mono ?_
  rintro e w2 ⟨rfl, hww2⟩
  subst hww2
  go_upto_region 8 with (fail)
  go_quiet (first | (go_at_call 101; exact quiet_left (HLD.out _)))
  cases ok with
  | true =>
    go_wp2_with fail
    refine (HPT.out _ (below_drewN (Below.refl _ _) _)).mono ?_
    rintro e w9 ⟨rfl, h9, g9⟩
    go_wp2_with fail
    go_ret
    have e := HD.out
    simp only [if_true] at e
    subst e
    refine ⟨ret_bool ?_, _, h9, HG1.out.trans ((G8.below (below_drewN (Below.refl _ _) _) HCL.out).trans g9)⟩
    rw [po]; rfl
  | false =>
    go_wp2_with fail
    refine (HTR.out _ (below_drewN (Below.refl _ _) _)).mono ?_
    rintro e w9 ⟨rfl, h9, g9⟩
    go_wp2_with fail
    go_ret
    have e := HD.out
    simp only [Bool.false_eq_true, if_false] at e
    subst e
    refine ⟨ret_bool ?_, _, h9, HG1.out.trans ((G8.below (below_drewN (Below.refl _ _) _) HCL.out).trans g9)⟩
    rw [pt]; rfl
set_option maxRecDepth 100000 in
set_option maxHeartbeats 1000000 in
theorem bytes8_store (h : R8 rp cp hb vm 34 60 152 w d vs steps 0 0) (s op n : Int) (kd ka kb : Nat) (hkd : kd < 36) (hka : ka < 36) (hkb : kb < 36) (hn : U32 n) (hsl : d.stores.length ≤ 100000) (hov : d.over = false) (hs : 16 ≤ s ∧ s ≤ 18) (d' : RunD) (hd' : d' = (if mStoreOk d.m s (u32 (d.get ka + n)) = true then (d.mem s (u32 (d.get ka + n)) (d.get kb)).stored (u32 (d.get ka + n)) (msize s).toNat else d.trap 4)) :
    Calls Try.prog 127 #[.pointer (some ⟨rp, 0, none⟩), .int .i64 300, .int .i64 s, .agg #[.int .i64 op, .int .i64 kd, .int .i64 ka, .int .i64 kb, .int .u32 n]] w fun e w' => e = .returned (.bool (!d'.over)) ∧ ∃ vs', R8 rp cp hb vm 34 60 152 w' d' vs' steps 0 0 ∧ G8 rp 34 cp hb vm w w' := by
  have hlt := h.rlt
  have hcr := h.lt
  have hbm : Ints .u8 w vm d.m := h.core.bytes
  obtain ⟨am, cm, rfl, -⟩ := hbm.open
  obtain ⟨w1, hw1⟩ : ∃ w1, w1 = w.alloc (.cells #[.int .i64 op, .int .i64 kd, .int .i64 ka, .int .i64 kb, .int .u32 n] 133) := ⟨_, rfl⟩
  have hb1 : Below w.heap.size w w1 := by rw [hw1]; exact (by repeat (first | with_reducible exact Below.refl _ _ | with_reducible refine below_drewN ?_ _ | ((with_reducible refine Below.setCell ?_ ?hq _); case hq => (first | (simp; done) | (simp; omega))) | ((with_reducible refine Below.alloc ?_ ?hq _); case hq => (first | (simp; done) | (simp; omega)))))
  have hs1 : w1.heap.size = w.heap.size + 1 := by rw [hw1]; simp
  have c0 : (w1).cell? ⟨w.heap.size, 0, none⟩ = some (.int .i64 op) := by rw [hw1]; go_cell
  have c1 : (w1).cell? ⟨w.heap.size, 1, none⟩ = some (.int .i64 kd) := by rw [hw1]; go_cell
  have c2 : (w1).cell? ⟨w.heap.size, 2, none⟩ = some (.int .i64 ka) := by rw [hw1]; go_cell
  have c3 : (w1).cell? ⟨w.heap.size, 3, none⟩ = some (.int .i64 kb) := by rw [hw1]; go_cell
  have c4 : (w1).cell? ⟨w.heap.size, 4, none⟩ = some (.int .u32 n) := by rw [hw1]; go_cell
  have H1 := h.below hb1
  have HG1 : Hid (G8 rp 34 cp hb (.slice am d.m.length cm) w w1) := Lib.hid (G8.below hb1 h.clt)
  have HGA := Lib.hid (get8_any H1 ka hka)
  have HGB := Lib.hid (fun nd => (get8_any (H1.below (below_drewN (Below.refl _ w1) nd)) kb hkb).mono (R' := fun e w' => e = .returned (.int .u32 (d.get kb)) ∧ w1.drewN nd = w') (fun e w' h => ⟨h.1, h.2.symm⟩))
  obtain ⟨a, ha⟩ : ∃ a, a = d.get ka := ⟨_, rfl⟩
  obtain ⟨b, hbb⟩ : ∃ b, b = d.get kb := ⟨_, rfl⟩
  have hua : U32 a := by rw [ha]; exact get_u32 h.wf ka
  have hub : U32 b := by rw [hbb]; exact get_u32 h.wf kb
  rw [← ha] at HGA
  rw [← hbb] at HGB
  have g0 := H1.at_.get (r8_head 0 (by omega))
  have g10 := H1.at_.get (r8_end H1.wf.tlen 0)
  have p1 : w1.cell? ⟨cp, 1, none⟩ = some (.slice am d.m.length cm) := H1.core.mem
  simp only [Nat.zero_add, Nat.reduceAdd] at g0 g10
  have HH1 := Lib.hid H1
  have HW1 := Lib.hid hw1
  have hu32 : ∀ x, u32 x = x % 4294967296 := fun x => rfl
  rw [← ha, ← hbb] at hd'
  simp only [hu32] at hd'
  have huq : U32 ((a + n) % 4294967296) := u32_ok _
  have HPU : Hid (∀ nd, Calls Try.prog 129 #[.pointer (some ⟨cp, 0, none⟩), .int .i64 s, .int .u32 ((a + n) % 4294967296), .int .u32 b] (w1.drewN nd) fun e w' => e = .returned (.bool (mStoreOk d.m s ((a + n) % 4294967296))) ∧ R8 rp cp hb (.slice am d.m.length cm) 34 60 152 w' (d.ofC ((d.core 0 0).put s ((a + n) % 4294967296) b)) vs steps ((d.core 0 0).put s ((a + n) % 4294967296) b).fr ((d.core 0 0).put s ((a + n) % 4294967296) b).tw ∧ G8 rp 34 cp hb (.slice am d.m.length cm) w1 w') := Lib.hid (fun nd => by
    have h2 := H1.below (below_drewN (Below.refl _ w1) nd)
    refine (cput_any h2.core h2.cwf s ((a + n) % 4294967296) b huq hub).mono ?_
    rintro e w9 ⟨rfl, h9, g9⟩
    refine ⟨rfl, h2.ofC h9 g9 tyR tyS (h2.cwf.put s _ b huq) ?_, (G8.below (below_drewN (Below.refl _ _) _) H1.clt).trans (G8.cgo g9 h2.clt)⟩
    have hl := h2.mmax
    unfold CoreD.put
    split
    · show (mStore d.m s _ _).length ≤ 4096
      rw [mStore_length]; exact hl
    · exact hl)
  have hml := h.mmax
  obtain ⟨c', hc'⟩ : ∃ c', c' = (d.core 0 0).put s ((a + n) % 4294967296) b := ⟨_, rfl⟩
  have hy : mStoreOk d.m s ((a + n) % 4294967296) = true → d' = (d.ofC c').takeC c' := fun e => by
    rw [hd', if_pos e, hc', store_take hml huq e]
  have hn' : mStoreOk d.m s ((a + n) % 4294967296) = false → c' = d.core 0 0 := fun e => by
    rw [hc']; unfold CoreD.put; rw [if_neg (by show ¬ mStoreOk d.m s _ = true; rw [e]; decide)]
  have hdn : mStoreOk d.m s ((a + n) % 4294967296) = false → d' = d.trap 4 := fun e => by rw [hd', if_neg (by rw [e]; decide)]
  rw [← hc'] at HPU
  generalize mStoreOk d.m s ((a + n) % 4294967296) = ok at *
  have HY := Lib.hid hy
  have HN := Lib.hid hn'
  have HDN := Lib.hid hdn
  have HST := Lib.hid (fun W vs (hW : R8 rp cp hb (.slice am d.m.length cm) 34 60 152 W (d.ofC c') vs steps c'.fr c'.tw) => stored8_any hW c' rfl rfl hsl)
  have HTR := Lib.hid (fun W vs fr tw (hW : R8 rp cp hb (.slice am d.m.length cm) 34 60 152 W d vs steps fr tw) => trap8_any hW 4 ⟨by omega, by omega⟩)
  clear ha hbb hd' hc' hy hn' hdn huq h H1 hb1 hw1 c0 c1 hu32 g10 p1 hml
  go_enter Try.func127, Try.ntmps127
  go_upto_region 1 with (fail)
  rw [← HW1.out]
  go_wp2_with fail
  refine HGA.out.mono ?_
  rintro e w2 ⟨rfl, hww2⟩
  subst hww2
  go_upto_region 14 with (fail)
  refine region_quiet_tail (fun W => ∃ nd, W = w2.drewN nd) 13 (by kernel_rfl) (by kernel_rfl) ⟨1, rfl⟩ ?_
  simp only [List.take_succ_cons, List.take_zero, List.drop_succ_cons, List.drop_zero]
  iterate 13 quiet_step ((go_at_call 124; exact quiet_left (HGB.out _)))
  refine wpQuiet_nil ?_
  rintro _ ⟨nd, rfl⟩
  go_wp2_with fail
  refine (HPU.out nd).mono ?_
  rintro e w9 ⟨rfl, h9, g9⟩
  cases ok with
  | true =>
    go_wp2_with fail
    refine (HST.out _ _ h9).mono ?_
    rintro e w10 ⟨rfl, vs', h10, g10⟩
    go_wp2_with fail
    go_ret
    have e := HY.out (by first | rfl | trivial)
    subst e
    refine ⟨ret_bool ?_, _, h10, HG1.out.trans (g9.trans g10)⟩
    rw [takeC_over]
    show true = !d.over
    rw [hov]; rfl
  | false =>
    have e1 := HN.out (by first | rfl | trivial)
    subst e1
    go_wp2_with fail
    refine (HTR.out _ _ _ _ h9).mono ?_
    rintro e w10 ⟨rfl, h10, g10⟩
    go_wp2_with fail
    go_ret
    have e := HDN.out (by first | rfl | trivial)
    subst e
    exact ⟨rfl, _, h10, HG1.out.trans (g9.trans g10)⟩
set_option maxRecDepth 100000 in
set_option maxHeartbeats 1000000 in
theorem bytes8_atom (h : R8 rp cp hb vm 34 60 152 w d vs steps 0 0) (s op n : Int) (kd ka kb : Nat) (hkd : kd < 36) (hka : ka < 36) (hkb : kb < 36) (hn : U32 n) (hsl : d.stores.length ≤ 100000) (hov : d.over = false) (hs : 46 ≤ s ∧ s ≤ 56) (d' : RunD) (hd' : d' = d.atom s kd ka kb) :
    Calls Try.prog 127 #[.pointer (some ⟨rp, 0, none⟩), .int .i64 600, .int .i64 s, .agg #[.int .i64 op, .int .i64 kd, .int .i64 ka, .int .i64 kb, .int .u32 n]] w fun e w' => e = .returned (.bool (!d'.over)) ∧ ∃ vs', R8 rp cp hb vm 34 60 152 w' d' vs' steps 0 0 ∧ G8 rp 34 cp hb vm w w' := by
  have hlt := h.rlt
  have hcr := h.lt
  have hbm : Ints .u8 w vm d.m := h.core.bytes
  obtain ⟨am, cm, rfl, -⟩ := hbm.open
  obtain ⟨w1, hw1⟩ : ∃ w1, w1 = w.alloc (.cells #[.int .i64 op, .int .i64 kd, .int .i64 ka, .int .i64 kb, .int .u32 n] 133) := ⟨_, rfl⟩
  have hb1 : Below w.heap.size w w1 := by rw [hw1]; exact (by repeat (first | with_reducible exact Below.refl _ _ | with_reducible refine below_drewN ?_ _ | ((with_reducible refine Below.setCell ?_ ?hq _); case hq => (first | (simp; done) | (simp; omega))) | ((with_reducible refine Below.alloc ?_ ?hq _); case hq => (first | (simp; done) | (simp; omega)))))
  have hs1 : w1.heap.size = w.heap.size + 1 := by rw [hw1]; simp
  have c0 : (w1).cell? ⟨w.heap.size, 0, none⟩ = some (.int .i64 op) := by rw [hw1]; go_cell
  have c1 : (w1).cell? ⟨w.heap.size, 1, none⟩ = some (.int .i64 kd) := by rw [hw1]; go_cell
  have c2 : (w1).cell? ⟨w.heap.size, 2, none⟩ = some (.int .i64 ka) := by rw [hw1]; go_cell
  have c3 : (w1).cell? ⟨w.heap.size, 3, none⟩ = some (.int .i64 kb) := by rw [hw1]; go_cell
  have c4 : (w1).cell? ⟨w.heap.size, 4, none⟩ = some (.int .u32 n) := by rw [hw1]; go_cell
  have H1 := h.below hb1
  have HG1 : Hid (G8 rp 34 cp hb (.slice am d.m.length cm) w w1) := Lib.hid (G8.below hb1 h.clt)
  have HGA := Lib.hid (get8_any H1 ka hka)
  have HGB := Lib.hid (fun nd => (get8_any (H1.below (below_drewN (Below.refl _ w1) nd)) kb hkb).mono (R' := fun e w' => e = .returned (.int .u32 (d.get kb)) ∧ w1.drewN nd = w') (fun e w' h => ⟨h.1, h.2.symm⟩))
  obtain ⟨a, ha⟩ : ∃ a, a = d.get ka := ⟨_, rfl⟩
  obtain ⟨b, hbb⟩ : ∃ b, b = d.get kb := ⟨_, rfl⟩
  have hua : U32 a := by rw [ha]; exact get_u32 h.wf ka
  have hub : U32 b := by rw [hbb]; exact get_u32 h.wf kb
  rw [← ha] at HGA
  rw [← hbb] at HGB
  have g0 := H1.at_.get (r8_head 0 (by omega))
  have g10 := H1.at_.get (r8_end H1.wf.tlen 0)
  have p1 : w1.cell? ⟨cp, 1, none⟩ = some (.slice am d.m.length cm) := H1.core.mem
  simp only [Nat.zero_add, Nat.reduceAdd] at g0 g10
  have HH1 := Lib.hid H1
  have HW1 := Lib.hid hw1
  have hbx : w1.heap[w.heap.size]? = some (.cells #[.int .i64 op, .int .i64 kd, .int .i64 ka, .int .i64 kb, .int .u32 n] 133 (0, 0)) := by rw [hw1]; exact heap_alloc_new _ _
  have HPU : Hid (∀ nd, Calls Try.prog 131 #[.pointer (some ⟨cp, 0, none⟩), .int .i64 s, .int .u32 a, .int .u32 b] (w1.drewN nd) fun e w' => e = .returned (.tuple #[.int .u32 (atomS (d.core 0 0) s a b).2.1, .bool (atomS (d.core 0 0) s a b).2.2]) ∧ R8 rp cp hb (.slice am d.m.length cm) 34 60 152 w' (d.ofC (atomS (d.core 0 0) s a b).1) vs steps (atomS (d.core 0 0) s a b).1.fr (atomS (d.core 0 0) s a b).1.tw ∧ G8 rp 34 cp hb (.slice am d.m.length cm) w1 w' ∧ w'.heap[w.heap.size]? = w1.heap[w.heap.size]?) := Lib.hid (fun nd => by
    have h2 := H1.below (below_drewN (Below.refl _ w1) nd)
    refine (atom_any h2.core h2.cwf s a b hs hua hub).mono ?_
    rintro e w9 ⟨rfl, h9, g9⟩
    refine ⟨rfl, h2.ofC h9 g9 tyR tyS (atomS_wf h2.cwf s a b hua hub).1 (by have := atomS_ml8 (d.core 0 0) s a b; rw [this]; exact h2.mmax), (G8.below (below_drewN (Below.refl _ _) _) H1.clt).trans (G8.cgo g9 h2.clt), ?_⟩
    exact g9.block w.heap.size (by show w.heap.size < w1.heap.size; omega) (by have := h.core.hbl; omega) (fun e => by have := h.core.mlt _ e; omega) (.inr ⟨by omega, fun cs fr e => by rw [show (w1.drewN nd).heap = w1.heap from rfl, hbx] at e; cases e⟩))
  have hml := h.mmax
  have hux : U32 (atomS (d.core 0 0) s a b).2.1 := (atomS_wf h.cwf s a b hua hub).2
  have hy : (atomS (d.core 0 0) s a b).2.2 = true → ((d.ofC (atomS (d.core 0 0) s a b).1).put kd (atomS (d.core 0 0) s a b).2.1).takeC (atomS (d.core 0 0) s a b).1 = d' := fun e => by
    rw [hd']; rw [ha, hbb] at e ⊢; exact atom_take hml (by rw [← ha]; exact hua) e
  have hn' : (atomS (d.core 0 0) s a b).2.2 = false → (d.ofC (atomS (d.core 0 0) s a b).1).stop d.here = d' ∧ (atomS (d.core 0 0) s a b).1.fr = 0 ∧ (atomS (d.core 0 0) s a b).1.tw = 0 := fun e => by
    refine ⟨?_, atom_no_fr e⟩
    rw [hd']; rw [ha, hbb] at e ⊢; exact (atom_no e).symm
  generalize (atomS (d.core 0 0) s a b).2.2 = ok at *
  generalize (atomS (d.core 0 0) s a b).2.1 = x at *
  generalize (atomS (d.core 0 0) s a b).1 = c' at *
  have HY := Lib.hid hy
  have HN := Lib.hid hn'
  have HPT := Lib.hid (fun W (hW : R8 rp cp hb (.slice am d.m.length cm) 34 60 152 W (d.ofC c') vs steps c'.fr c'.tw) => put8_any hW kd hkd x hux)
  have hsl2 : ((d.ofC c').put kd x).stores.length ≤ 100000 := by rw [(put_same (d.ofC c') kd x).2.1]; exact hsl
  have HST := Lib.hid (fun W vs (hW : R8 rp cp hb (.slice am d.m.length cm) 34 60 152 W ((d.ofC c').put kd x) vs steps c'.fr c'.tw) => stored8_any hW c' rfl rfl hsl2)
  have HSP := Lib.hid (fun W vs fr tw (hW : R8 rp cp hb (.slice am d.m.length cm) 34 60 152 W (d.ofC c') vs steps fr tw) => stop8_any hW d.here hW.wf.here)
  have HWF := Lib.hid H1.wf
  have hov2 : (((d.ofC c').put kd x).takeC c').over = false := by rw [takeC_over, put_over]; exact hov
  have hne1 : w.heap.size ≠ rp := by omega
  have hne2 : w.heap.size ≠ cp := by omega
  have hltc : cp < w.heap.size := by omega
  clear ha hbb hd' hy hn' h H1 hb1 hw1 c0 p1 hml hux hsl2 c4 g10
  go_enter Try.func127, Try.ntmps127
  go_upto_region 1 with (fail)
  rw [← HW1.out]
  go_wp2_with fail
  refine HGA.out.mono ?_
  rintro e w2 ⟨rfl, hww2⟩
  subst hww2
  go_upto_region 3 with (fail)
  have hd0 : w2.drew.cell? ⟨w.heap.size, 3, none⟩ = some (.int .i64 kb) := c3
  have hd1 : w2.drew.cell? ⟨rp, 0, none⟩ = some (.pointer (some ⟨cp, 0, none⟩)) := g0
  go_cut [12, 13] from 19 to 32 (fun t12 t13 wx => t12 = .int .u32 x ∧ t13 = .bool ok ∧ Hid (R8 rp cp hb (.slice am d.m.length cm) 34 60 152 wx (d.ofC c') vs steps c'.fr c'.tw ∧ G8 rp 34 cp hb (.slice am d.m.length cm) w2 wx ∧ wx.heap[w.heap.size]? = w2.heap[w.heap.size]?))
  case first =>
    refine wp_region_held_drew (S := fun W => W.cell? ⟨w.heap.size, 3, none⟩ = some (.int .i64 kb) ∧ W.cell? ⟨rp, 0, none⟩ = some (.pointer (some ⟨cp, 0, none⟩))) (by kernel_rfl) ⟨hd0, hd1⟩ (fun hHeld => ?_)
    clear hd0 hd1 c2
    refine wpAnyH_take (i := 0) (v := .pointer (some ⟨rp, 0, none⟩)) rfl (by kernel_rfl) (by kernel_rfl) (by kernel_rfl) (fun _ _ _ h => h) (Or.inl ⟨by rfl, ?_⟩) (by assumption) ?_
    · (try simp only [List.getElem_toArray, List.getElem_cons_zero, List.getElem_cons_succ]); intro w hSw; (try dsimp only at hSw); go_simp
    try simp only [List.getElem_toArray, List.getElem_cons_zero, List.getElem_cons_succ, Act.put, List.setIfInBounds_toArray, List.set_cons_zero, List.set_cons_succ]
    refine wpAnyH_take (i := 1) (v := .pointer (some ⟨rp, 0, none⟩)) rfl (by kernel_rfl) (by kernel_rfl) (by kernel_rfl) (fun _ _ _ h => h) (Or.inl ⟨by rfl, ?_⟩) (by assumption) ?_
    · (try simp only [List.getElem_toArray, List.getElem_cons_zero, List.getElem_cons_succ]); intro w hSw; (try dsimp only at hSw); go_simp
    try simp only [List.getElem_toArray, List.getElem_cons_zero, List.getElem_cons_succ, Act.put, List.setIfInBounds_toArray, List.set_cons_zero, List.set_cons_succ]
    refine wpAnyH_take (i := 2) (v := .pointer (some ⟨rp, 0, none⟩)) rfl (by kernel_rfl) (by kernel_rfl) (by kernel_rfl) (fun _ _ _ h => h) (Or.inl ⟨by rfl, ?_⟩) (by assumption) ?_
    · (try simp only [List.getElem_toArray, List.getElem_cons_zero, List.getElem_cons_succ]); intro w hSw; (try dsimp only at hSw); go_simp
    try simp only [List.getElem_toArray, List.getElem_cons_zero, List.getElem_cons_succ, Act.put, List.setIfInBounds_toArray, List.set_cons_zero, List.set_cons_succ]
    refine wpAnyH_take (i := 3) (v := .pointer (some ⟨cp, 0, none⟩)) rfl (by kernel_rfl) (by kernel_rfl) (by kernel_rfl) (fun _ _ _ h => h) (Or.inl ⟨by rfl, ?_⟩) (by assumption) ?_
    · (try simp only [List.getElem_toArray, List.getElem_cons_zero, List.getElem_cons_succ]); intro w hSw; (try dsimp only at hSw); go_simp
    try simp only [List.getElem_toArray, List.getElem_cons_zero, List.getElem_cons_succ, Act.put, List.setIfInBounds_toArray, List.set_cons_zero, List.set_cons_succ]
    refine wpAnyH_take (i := 4) (v := .int .i64 s) rfl (by kernel_rfl) (by kernel_rfl) (by kernel_rfl) (fun _ _ _ h => h) (Or.inl ⟨by rfl, ?_⟩) (by assumption) ?_
    · (try simp only [List.getElem_toArray, List.getElem_cons_zero, List.getElem_cons_succ]); intro w hSw; (try dsimp only at hSw); go_simp
    try simp only [List.getElem_toArray, List.getElem_cons_zero, List.getElem_cons_succ, Act.put, List.setIfInBounds_toArray, List.set_cons_zero, List.set_cons_succ]
    refine wpAnyH_take (i := 5) (v := .int .u32 a) rfl (by kernel_rfl) (by kernel_rfl) (by kernel_rfl) (fun _ _ _ h => h) (Or.inl ⟨by rfl, ?_⟩) (by assumption) ?_
    · (try simp only [List.getElem_toArray, List.getElem_cons_zero, List.getElem_cons_succ]); intro w hSw; (try dsimp only at hSw); go_simp
    try simp only [List.getElem_toArray, List.getElem_cons_zero, List.getElem_cons_succ, Act.put, List.setIfInBounds_toArray, List.set_cons_zero, List.set_cons_succ]
    refine wpAnyH_take (i := 6) (v := .pointer (some ⟨rp, 0, none⟩)) rfl (by kernel_rfl) (by kernel_rfl) (by kernel_rfl) (fun _ _ _ h => h) (Or.inl ⟨by rfl, ?_⟩) (by assumption) ?_
    · (try simp only [List.getElem_toArray, List.getElem_cons_zero, List.getElem_cons_succ]); intro w hSw; (try dsimp only at hSw); go_simp
    try simp only [List.getElem_toArray, List.getElem_cons_zero, List.getElem_cons_succ, Act.put, List.setIfInBounds_toArray, List.set_cons_zero, List.set_cons_succ]
    refine wpAnyH_take (i := 7) (v := .pointer (some ⟨w.heap.size, 3, none⟩)) rfl (by kernel_rfl) (by kernel_rfl) (by kernel_rfl) (fun _ _ _ h => h) (Or.inl ⟨by rfl, ?_⟩) (by assumption) ?_
    · (try simp only [List.getElem_toArray, List.getElem_cons_zero, List.getElem_cons_succ]); intro w hSw; (try dsimp only at hSw); go_simp
    try simp only [List.getElem_toArray, List.getElem_cons_zero, List.getElem_cons_succ, Act.put, List.setIfInBounds_toArray, List.set_cons_zero, List.set_cons_succ]
    refine wpAnyH_take (i := 8) (v := .int .i64 kb) rfl (by kernel_rfl) (by kernel_rfl) (by kernel_rfl) (fun _ _ _ h => h) (Or.inl ⟨by rfl, ?_⟩) (by assumption) ?_
    · (try simp only [List.getElem_toArray, List.getElem_cons_zero, List.getElem_cons_succ]); intro w hSw; (try dsimp only at hSw); go_simp
    try simp only [List.getElem_toArray, List.getElem_cons_zero, List.getElem_cons_succ, Act.put, List.setIfInBounds_toArray, List.set_cons_zero, List.set_cons_succ]
    refine wpAnyH_ready (rs := [9]) (by kernel_rfl) (by simp) ?_
    refine AllReadyH.cons rfl (fun K hK => ?_) AllReadyH.nil
    go_simp
    refine (HGB.out 1).mono ?_
    rintro e w3 ⟨rfl, rfl⟩
    refine hK.out _ _ hHeld (fun hHeld2 => ?_)
    clear hK K
    refine wpAnyH_ready (rs := [10]) (by kernel_rfl) (by simp) ?_
    refine AllReadyH.cons rfl (fun K hK => ?_) AllReadyH.nil
    go_simp
    refine (HPU.out 1).mono ?_
    rintro e w4 ⟨rfl, h4, g4, b4⟩
    have eS : w4.cell? ⟨w.heap.size, 3, none⟩ = some (.int .i64 kb) ∧ w4.cell? ⟨rp, 0, none⟩ = some (.pointer (some ⟨cp, 0, none⟩)) := ⟨(cell_block b4 _).trans c3, by have := h4.at_.get (r8_head 0 (by omega)); simpa using this⟩
    have HR := Lib.hid (And.intro h4 (And.intro g4 b4))
    clear h4 g4 b4
    refine hK.out _ _ eS (fun hHeld3 => ?_)
    clear hK K
    refine wpAnyH_take (i := 11) (v := .tuple #[.int .u32 x, .bool ok]) rfl (by kernel_rfl) (by kernel_rfl) (by kernel_rfl) (fun _ _ _ h => h) (Or.inl ⟨by rfl, ?_⟩) (by assumption) ?_
    · (try simp only [List.getElem_toArray, List.getElem_cons_zero, List.getElem_cons_succ]); intro w hSw; (try dsimp only at hSw); go_simp
    try simp only [List.getElem_toArray, List.getElem_cons_zero, List.getElem_cons_succ, Act.put, List.setIfInBounds_toArray, List.set_cons_zero, List.set_cons_succ]
    refine wpAnyH_take (i := 12) (v := .int .u32 x) rfl (by kernel_rfl) (by kernel_rfl) (by kernel_rfl) (fun _ _ _ h => h) (Or.inl ⟨by rfl, ?_⟩) (by assumption) ?_
    · (try simp only [List.getElem_toArray, List.getElem_cons_zero, List.getElem_cons_succ]); intro w hSw; (try dsimp only at hSw); go_simp
    try simp only [List.getElem_toArray, List.getElem_cons_zero, List.getElem_cons_succ, Act.put, List.setIfInBounds_toArray, List.set_cons_zero, List.set_cons_succ]
    refine wpAnyH_take (i := 13) (v := .bool ok) rfl (by kernel_rfl) (by kernel_rfl) (by kernel_rfl) (fun _ _ _ h => h) (Or.inl ⟨by rfl, ?_⟩) (by assumption) ?_
    · (try simp only [List.getElem_toArray, List.getElem_cons_zero, List.getElem_cons_succ]); intro w hSw; (try dsimp only at hSw); go_simp
    try simp only [List.getElem_toArray, List.getElem_cons_zero, List.getElem_cons_succ, Act.put, List.setIfInBounds_toArray, List.set_cons_zero, List.set_cons_succ]
    refine wpAnyH_take (i := 14) (v := .int .u32 x) rfl (by kernel_rfl) (by kernel_rfl) (by kernel_rfl) (fun _ _ _ h => h) (Or.inl ⟨by rfl, ?_⟩) (by assumption) ?_
    · (try simp only [List.getElem_toArray, List.getElem_cons_zero, List.getElem_cons_succ]); intro w hSw; (try dsimp only at hSw); go_simp
    try simp only [List.getElem_toArray, List.getElem_cons_zero, List.getElem_cons_succ, Act.put, List.setIfInBounds_toArray, List.set_cons_zero, List.set_cons_succ]
    refine wpAnyH_take (i := 15) (v := .bool ok) rfl (by kernel_rfl) (by kernel_rfl) (by kernel_rfl) (fun _ _ _ h => h) (Or.inl ⟨by rfl, ?_⟩) (by assumption) ?_
    · (try simp only [List.getElem_toArray, List.getElem_cons_zero, List.getElem_cons_succ]); intro w hSw; (try dsimp only at hSw); go_simp
    try simp only [List.getElem_toArray, List.getElem_cons_zero, List.getElem_cons_succ, Act.put, List.setIfInBounds_toArray, List.set_cons_zero, List.set_cons_succ]
    refine wpAnyH_done (by kernel_rfl) ?_ _
    clear hHeld hHeld2 hHeld3 eS
    go_wp2_with fail
    go_meet
    case rel => exact ⟨rfl, rfl, HR⟩
  case rest =>
    obtain ⟨rfl, rfl, HR⟩ := hcut
    obtain ⟨w5, hw5⟩ : ∃ w5, w5 = wc := ⟨_, rfl⟩
    rw [← hw5] at HR ⊢
    have h5 := HR.out.1
    have hd10 := h5.at_.get (r8_end h5.wf.tlen 0)
    have g10 : w5.cell? ⟨rp, 10, none⟩ = some (.int .u32 d.here) := by simpa [RunD.ofC] using hd10
    have e1 := (cell_block HR.out.2.2 1).trans c1
    clear hw5 h5 hd10 hd0 hd1 c1 c2 c3 g0 HPU HGB
    cases ok with
    | true =>
      go_wp2_with fail
      refine (HPT.out _ HR.out.1).mono ?_
      rintro e w6 ⟨rfl, h6, g6⟩
      have HS6 := Lib.hid (HST.out _ _ h6)
      have HG6 := Lib.hid g6
      clear h6 g6
      go_wp2_with fail
      refine HS6.out.mono ?_
      rintro e w7 ⟨rfl, vs', h7, g7⟩
      go_wp2_with fail
      go_ret
      have e := HY.out (by first | rfl | trivial)
      rw [e] at h7 hov2
      refine ⟨ret_bool ?_, _, h7, HG1.out.trans (HR.out.2.1.trans (HG6.out.trans g7))⟩
      rw [hov2]; rfl
    | false =>
      go_wp2_with fail
      refine (HSP.out _ _ _ _ HR.out.1).mono ?_
      rintro e w6 ⟨rfl, h6, g6⟩
      go_wp2_with fail
      go_ret
      obtain ⟨e, e1, e2⟩ := HN.out (by first | rfl | trivial)
      rw [e1, e2] at h6
      rw [← e]
      exact ⟨rfl, _, h6, HG1.out.trans (HR.out.2.1.trans g6)⟩
end
end Go.Proofs.Ytlfnddmncbkjaab.W
