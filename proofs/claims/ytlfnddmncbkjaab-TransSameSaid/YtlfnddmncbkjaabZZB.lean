import Derived.Test.YtlfnddmncbkjaabZMB
import Derived.Test.YtlfnddmncbkjaabZZA
set_option linter.unusedVariables false
set_option linter.unusedSimpArgs false
set_option maxRecDepth 100000
set_option maxHeartbeats 4000000
namespace Go.Proofs.Ytlfnddmncbkjaab.W
open Go.RowKit Fb
theorem alu_add (a b : Int) : alu 28 a b = u32 (a + b) := by unfold alu u32; rfl
theorem sum7_any (a b : Int) (w : World) (ha : U32 a) (hb : U32 b) :
    Calls Try.prog 81 #[.int .u32 a, .int .u32 b] w fun e w' => e = .returned (.int .u32 (u32 (a + b))) ∧ ∃ n, w' = w.drewN n := by
  have H := Lib.hid (alu1_any 28 a b w ha.1 ha.2 hb.1 hb.2)
  rw [alu_add] at H
  go_enter Try.func81, Try.ntmps81
  go_wp2_with fail
  refine H.out.mono ?_
  rintro e w1 ⟨rfl, n, rfl⟩
  go_wp2_with fail
  go_ret
  exact ⟨rfl, _, rfl⟩
section
variable {rp : Nat} {w : World} {d : RunD} {vm vo vs : Value}
theorem get7_any (h : R7 rp 34 60 w d vm vo vs) (k : Nat) (hk : k < 36) :
    Calls Try.prog 109 #[.pointer (some ⟨rp, 0, none⟩), .int .i64 k] w fun e w' => e = .returned (.int .u32 (d.get k)) ∧ w' = w := by
  by_cases h32 : k < 32
  · have hc := h.at_.get ((r7_hart h.wf.h.len (by omega)).trans (hlist_reg h.wf.h k h32))
    have e : d.get k = d.h.regs.getD k 0 := by unfold RunD.get; rw [if_pos h32]
    rw [e]
    clear e
    have i0 : (k : Int) < 32 := by omega
    simp only [Nat.zero_add] at hc
    go_enter Try.func109, Try.ntmps109
    go_wp2_with fail
    go_ret
    exact ⟨rfl, rfl⟩
  · obtain ⟨j, rfl⟩ : ∃ j, k = 32 + j := ⟨k - 32, by omega⟩
    have hc := h.at_.get (r7_temp h.wf.h.len h.wf.tlen (k := j) (by omega))
    have e : d.get (32 + j) = d.temps.getD j 0 := by unfold RunD.get; rw [if_neg h32]; simp
    rw [e]
    clear e
    have i0 : ¬ ((32 + j : Nat) : Int) < 32 := by omega
    have i1 : wrap64 (((32 + j : Nat) : Int) - 32) = (j : Int) := by unfold wrap64; omega
    simp only [Nat.zero_add] at hc
    obtain ⟨q, hq⟩ : ∃ q : Int, q = ((32 + j : Nat) : Int) := ⟨_, rfl⟩
    rw [← hq] at i0 i1 ⊢
    have i2 : (j : Int) < 4 := by omega
    have i3 : (0 : Int) ≤ (j : Int) := by omega
    clear hq h32 hk
    go_enter Try.func109, Try.ntmps109
    go_wp2_with fail
    go_ret
    exact ⟨rfl, rfl⟩
theorem stop7_any (h : R7 rp 34 60 w d vm vo vs) (pc : Int) (hpc : U32 pc) :
    Calls Try.prog 107 #[.pointer (some ⟨rp, 0, none⟩), .int .u32 pc] w fun e w' => e = .returned (.tuple #[]) ∧ R7 rp 34 60 w' (d.stop pc) vm vo vs ∧ G7 rp w vo vs w' vo vs := by
  have c47 := h.at_.get (r7_end h.wf.h.len h.wf.tlen 2)
  have c32 := h.at_.get ((r7_hart h.wf.h.len (by omega)).trans (hlist_pc h.wf.h))
  have f47 := h.frz 47
  have f32 := h.frz 32
  simp only [Nat.zero_add] at c47 c32
  have H1 := Lib.hid (r7_setCell (d' := { d with over := true }) h 47 (by omega) (.bool true) (r7_setEnd h.wf.h.len h.wf.tlen (j := 2) rfl rfl rfl rfl) rfl rfl rfl { h.wf with })
  have H2 := Lib.hid (r7_setCell (d' := d.stop pc) H1.out 32 (by omega) (.int .u32 pc) (r7_setHart (d := { d with over := true }) h.wf.h.len (by omega) (hlist_setPc h.wf.h.len pc)) rfl rfl rfl { h.wf with h := { h.wf.h with pc := hpc } })
  have HG : Hid (G7 rp w vo vs ((w.setCell ⟨rp, 47, none⟩ (.bool true)).setCell ⟨rp, 32, none⟩ (.int .u32 pc)) vo vs) := Lib.hid ((G7.set 47 _).trans (G7.set 32 _))
  clear h
  go_enter Try.func107, Try.ntmps107
  go_wp2_with fail
  go_end0
  exact ⟨rfl, H2.out, HG.out⟩
theorem trap7_any (h : R7 rp 34 60 w d vm vo vs) (c : Int) (hc : i64ok c) :
    Calls Try.prog 110 #[.pointer (some ⟨rp, 0, none⟩), .int .i64 c] w fun e w' => e = .returned (.tuple #[]) ∧ R7 rp 34 60 w' (d.trap c) vm vo vs ∧ G7 rp w vo vs w' vo vs := by
  have c35 := h.at_.get ((r7_hart h.wf.h.len (by omega)).trans (hlist_state h.wf.h))
  have c36 := h.at_.get ((r7_hart h.wf.h.len (by omega)).trans (hlist_cause h.wf.h))
  have c45 := h.at_.get (r7_end h.wf.h.len h.wf.tlen 0)
  have f35 := h.frz 35
  have f36 := h.frz 36
  simp only [Nat.zero_add] at c35 c36 c45
  have H1 := Lib.hid (r7_setCell (d' := { d with h := { d.h with state := 2 } }) h 35 (by omega) (.int .i64 2) (r7_setHart h.wf.h.len (by omega) (hlist_setState h.wf.h.len 2)) rfl rfl rfl { h.wf with h := { h.wf.h with state := (show -9223372036854775808 ≤ (2 : Int) ∧ (2 : Int) ≤ 9223372036854775807 by omega) } })
  have H2 := Lib.hid (r7_setCell (d' := { d with h := d.h.trap c }) H1.out 36 (by omega) (.int .i64 c) (r7_setHart (d := { d with h := { d.h with state := 2 } }) h.wf.h.len (by omega) (hlist_setCause (h := { d.h with state := 2 }) h.wf.h.len c)) rfl rfl rfl { h.wf with h := { h.wf.h with state := (show -9223372036854775808 ≤ (2 : Int) ∧ (2 : Int) ≤ 9223372036854775807 by omega), cause := hc } })
  have HG : Hid (G7 rp w vo vs ((w.setCell ⟨rp, 35, none⟩ (.int .i64 2)).setCell ⟨rp, 36, none⟩ (.int .i64 c)) vo vs) := Lib.hid ((G7.set 35 _).trans (G7.set 36 _))
  have HS := Lib.hid (stop7_any H2.out d.here h.wf.here)
  clear h
  go_enter Try.func110, Try.ntmps110
  go_wp2_with fail
  refine HS.out.mono ?_
  rintro e w2 ⟨rfl, h2, g2⟩
  go_wp2_with fail
  go_end0
  exact ⟨rfl, h2, HG.out.trans g2⟩
theorem put7_any (h : R7 rp 34 60 w d vm vo vs) (k : Nat) (hk : k < 36) (x : Int) (hx : U32 x) :
    Calls Try.prog 108 #[.pointer (some ⟨rp, 0, none⟩), .int .i64 k, .int .u32 x] w fun e w' => e = .returned (.tuple #[]) ∧ R7 rp 34 60 w' (d.put k x) vm vo vs ∧ G7 rp w vo vs w' vo vs := by
  by_cases h32 : k < 32
  · by_cases hk0 : k = 0
    · subst hk0
      have e : d.put 0 x = d := by unfold RunD.put Hart.setReg; simp
      rw [e]
      have H := Lib.hid h
      clear h e
      go_enter Try.func108, Try.ntmps108
      go_wp2_with fail
      go_end0
      exact ⟨rfl, H.out, G7.refl⟩
    · have hc := h.at_.get ((r7_hart h.wf.h.len (by omega)).trans (hlist_reg h.wf.h k h32))
      have hf := h.frz k
      have e : d.put k x = { d with h := { d.h with regs := d.h.regs.set k x } } := by unfold RunD.put Hart.setReg; rw [if_neg (by omega), if_pos (by omega)]; simp
      have H1 := Lib.hid (r7_setCell (d' := d.put k x) h k (by omega) (.int .u32 x) (by rw [e]; exact r7_setHart h.wf.h.len (by omega) (hlist_setReg h.wf.h.len k h32 x)) (by rw [e]) (by rw [e]) (by rw [e]) (by
        rw [e]
        exact { h.wf with h := { h.wf.h with len := by show (d.h.regs.set k x).length = 32; rw [List.length_set]; exact h.wf.h.len, regs := fun y hy => (List.mem_or_eq_of_mem_set hy).elim (h.wf.h.regs y) (fun e => by rw [e]; exact hx) } }))
      clear e
      have i0 : ¬ (32 : Int) ≤ (k : Int) := by omega
      have i1 : ((k : Int) != 0) = true := by simp; omega
      have i2 : (0 : Int) ≤ (k : Int) := by omega
      have i3 : (k : Int) < 32 := by omega
      simp only [Nat.zero_add] at hc
      clear h
      go_enter Try.func108, Try.ntmps108
      go_wp2_with fail
      go_end0
      exact ⟨rfl, H1.out, G7.set k _⟩
  · obtain ⟨j, rfl⟩ : ∃ j, k = 32 + j := ⟨k - 32, by omega⟩
    have hc := h.at_.get (r7_temp h.wf.h.len h.wf.tlen (k := j) (by omega))
    have hf := h.frz (41 + j)
    have e : d.put (32 + j) x = { d with temps := d.temps.set j x } := by unfold RunD.put; rw [if_pos (by omega)]; simp
    have H1 := Lib.hid (r7_setCell (d' := d.put (32 + j) x) h (41 + j) (by omega) (.int .u32 x) (by rw [e]; exact r7_setTemp h.wf.h.len h.wf.tlen (by omega) x) (by rw [e]) (by rw [e]) (by rw [e]) (by
      rw [e]
      exact { h.wf with tlen := by show (d.temps.set j x).length = 4; rw [List.length_set]; exact h.wf.tlen, temps := fun y hy => (List.mem_or_eq_of_mem_set hy).elim (h.wf.temps y) (fun e => by rw [e]; exact hx) }))
    clear e
    have i0 : (32 : Int) ≤ ((32 + j : Nat) : Int) := by omega
    have i1 : wrap64 (((32 + j : Nat) : Int) - 32) = (j : Int) := by unfold wrap64; omega
    simp only [Nat.zero_add] at hc
    obtain ⟨q, hq⟩ : ∃ q : Int, q = ((32 + j : Nat) : Int) := ⟨_, rfl⟩
    rw [← hq] at i0 i1 ⊢
    have i2 : (j : Int) < 4 := by omega
    have i3 : (0 : Int) ≤ (j : Int) := by omega
    clear hq h32 hk h
    go_enter Try.func108, Try.ntmps108
    go_wp2_with fail
    go_end0
    exact ⟨rfl, H1.out, G7.set (41 + j) _⟩
end
end Go.Proofs.Ytlfnddmncbkjaab.W
namespace Go.Proofs.Ytlfnddmncbkjaab.W
open Go.RowKit Fb
theorem info_range7 : (Try.prog.info? 60).map (fun i => (i.zero, i.size, i.bytes)) = some (some (.agg #[.int .u32 0, .int .u32 0]), 2, 8) := by kernel_rfl
section
variable {rp : Nat} {w : World} {d : RunD} {vm vo vs : Value}
theorem stored7_any (h : R7 rp 34 60 w d vm vo vs) (a : Int) (n : Nat) (ha : U32 a) (hn : n ≤ 4) (hl : d.stores.length ≤ 100000) :
    Calls Try.prog 112 #[.pointer (some ⟨rp, 0, none⟩), .int .u32 a, .int .i64 n] w fun e w' => e = .returned (.tuple #[]) ∧ ∃ vs', R7 rp 34 60 w' (d.stored a n) vm vo vs' ∧ G7 rp w vo vs w' vo vs' := by
  obtain ⟨i0, hi, hi0, hi1, hi2⟩ := info_parts info_range7
  have hlt := h.lt
  obtain ⟨asl, cs, hvs⟩ := owns_slice h.sto
  have c40 := h.at_.get ((r7_tail (vm := vm) (vo := vo) (vs := vs) h.wf.h.len 3).trans (show (r7tail d vm vo vs)[3]? = some vs from rfl))
  have f40 := h.frz 40
  simp only [Nat.zero_add, Nat.reduceAdd] at c40
  obtain ⟨un, hun⟩ : ∃ un, un = u32 (a + n) := ⟨_, rfl⟩
  have HUN : Hid ((a + (n : Int)) % 4294967296 = un) := Lib.hid (by rw [hun]; rfl)
  have hnn : (n : Int) % 4294967296 = (n : Int) := by omega
  obtain ⟨w2, hw2⟩ : ∃ w2, w2 = w.alloc (.cells #[.int .u32 a, .int .u32 un] 60) := ⟨_, rfl⟩
  have hb2 : Below w.heap.size w w2 := by rw [hw2]; exact Fb.blw
  have hs2 : w2.heap.size = w.heap.size + 1 := by rw [hw2]; simp
  have HAT : Hid (At w2 w.heap.size 0 (rg (a, un))) := Lib.hid (by rw [hw2]; exact at_alloc w (rg (a, un)) _ _)
  have HOWN : Hid (w2.ownsRow (rp + 1) 60 2 vs d.stores.length (d.stores.flatMap rg)) := Lib.hid (owns_below h.sto hb2)
  have HUP : Hid (U32 un) := Lib.hid (by rw [hun]; exact u32_ok _)
  have hrp : vs.ownBlock ≠ some rp := fun e => by have := (h.sto.lt rp e).1; omega
  have d40 := (hb2.cell (p := ⟨rp, 40, none⟩) hlt).trans c40
  have HRP := Lib.hid hrp
  have H := Lib.hid h
  have HB2 := Lib.hid hb2
  have HW2 := Lib.hid hw2
  have HUU := Lib.hid hun
  have HVS := Lib.hid hvs
  rw [hvs] at c40 d40 HOWN HRP H
  clear hw2 hb2 hun hrp h hvs
  go_enter Try.func112, Try.ntmps112
  go_wp2_with (at_builtin; (try rw [HUN.out]); (try rw [← HW2.out]); refine append_at rfl _ _ 62 rfl (rp + 1) 60 i0 _ 2 8 Try.underlying62 hi hi0 hi1 hi2 rfl (by decide) _ d.stores.length (d.stores.flatMap rg) rfl HOWN.out _ 1 (rg (a, un)) rfl (Sl.mk HAT.out rfl (by omega) (by decide)) (by intro u hu; simp [rg] at hu; rcases hu with rfl | rfl <;> rfl) (by omega) (by unfold maxLen; omega) (by omega) ?h6)
  case h6 =>
    intro v' w3 hown hgrow hat'
    have HS := Lib.hid (r7_sto (by decide) H.out HB2.out (p := (a, un)) ⟨ha, HUP.out⟩ hown hgrow (by rw [hs2]; exact hat'))
    obtain ⟨ao3, cp3, rfl⟩ := owns_slice hown
    have e40 := (hgrow.cell_far ⟨rp, 40, none⟩ (by show rp < _; omega) (fun e => HRP.out e.symm)).trans d40
    have g40 := (hgrow.frozen_far ⟨rp, 40, none⟩ (by show rp < _; omega) (fun e => HRP.out e.symm)).trans ((HB2.out.frozen (p := ⟨rp, 40, none⟩) hlt).trans f40)
    obtain ⟨w4, hw4⟩ : ∃ w4, w4 = w3.setCell ⟨rp, 40, none⟩ (.slice ao3 (d.stores.length + 1) cp3) := ⟨_, rfl⟩
    rw [← hw4] at HS
    have HW4 := Lib.hid hw4
    clear hown hgrow hat' hw4 c40 d40 f40 HAT HOWN HRP
    go_upto_region 1 with (fail)
    rw [← HW4.out]
    clear e40 g40 HW4
    go_wp2_with fail
    go_loopw [6] (fun i wr => ∃ k : Nat, i = .int .i64 k ∧ k ≤ n ∧ Hid (R7 rp 34 60 wr { d with stores := d.stores ++ [(a, un)], own := d.own || hits a d.bf d.bt k } vm vo (.slice ao3 (d.stores.length + 1) cp3) ∧ G7 rp w vo (.slice asl d.stores.length cs) wr vo (.slice ao3 (d.stores.length + 1) cp3))) (fun i _ => n - (intOf i).toNat)
    case atStart =>
      refine ⟨0, rfl, by omega, Lib.hid ⟨?_, HS.out.2⟩⟩
      have : (d.own || hits a d.bf d.bt 0) = d.own := by unfold hits; simp
      rw [this]; exact HS.out.1
    case round =>
      obtain ⟨k, rfl, hk, HR⟩ := hrel
      by_cases hlt2 : k < n
      · have hr := HR.out.1
        have c48 := hr.at_.get (r7_end hr.wf.h.len hr.wf.tlen 3)
        have c49 := hr.at_.get (r7_end hr.wf.h.len hr.wf.tlen 4)
        have c46 := hr.at_.get (r7_end hr.wf.h.len hr.wf.tlen 1)
        have f46 := hr.frz 46
        simp only [Nat.zero_add, Nat.reduceAdd] at c48 c49 c46
        have HNX := Lib.hid (hits_next a d.bf d.bt k)
        obtain ⟨q, hq⟩ : ∃ q, q = Fb.u32 (a + (k : Int)) := ⟨_, rfl⟩
        have HQ : Hid ((a + (k : Int)) % 4294967296 = q) := Lib.hid (by rw [hq]; rfl)
        rw [← hq] at HNX
        have i1 : (k : Int) < (n : Int) := by omega
        have hkk : (k : Int) % 4294967296 = (k : Int) := by omega
        have HRG := Lib.hid HR.out.2
        have HT := Lib.hid (r7_setCell (d' := { d with stores := d.stores ++ [(a, un)], own := true }) hr 46 (by omega) (.bool true) (r7_setEnd (d := { d with stores := d.stores ++ [(a, un)], own := d.own || hits a d.bf d.bt k }) hr.wf.h.len hr.wf.tlen (j := 1) rfl rfl rfl rfl) rfl rfl rfl { hr.wf with })
        have HR1 := Lib.hid hr
        clear hq hr HR
        by_cases p1 : d.bf ≤ q
        · have p1' : decide (d.bf ≤ q) = true := decide_eq_true p1
          by_cases p2 : q < d.bt
          · have p2' : decide (q < d.bt) = true := decide_eq_true p2
            have HOW : Hid ((d.own || hits a d.bf d.bt (k + 1)) = true) := Lib.hid (by rw [HNX.out, decide_eq_true ⟨p1, p2⟩]; simp)
            clear p1 p2 HNX
            go_upto_region 5 with (fail)
            (try rw [HQ.out])
            go_wp2_with fail
            go_roundw
            case rel => exact ⟨k + 1, by simp, by omega, Lib.hid ⟨by rw [HOW.out]; exact HT.out, HRG.out.trans (G7.set 46 _)⟩⟩
            case measure => simp [intOf]; omega
          · have p2' : decide (q < d.bt) = false := decide_eq_false p2
            have HOW : Hid ((d.own || hits a d.bf d.bt (k + 1)) = (d.own || hits a d.bf d.bt k)) := Lib.hid (by rw [HNX.out, decide_eq_false (fun e => p2 e.2)]; simp)
            clear p1 p2 HNX
            go_upto_region 5 with (fail)
            (try rw [HQ.out])
            go_wp2_with fail
            go_roundw
            case rel => exact ⟨k + 1, by simp, by omega, Lib.hid ⟨by rw [HOW.out]; exact HR1.out, HRG.out⟩⟩
            case measure => simp [intOf]; omega
        · have p1' : decide (d.bf ≤ q) = false := decide_eq_false p1
          have HOW : Hid ((d.own || hits a d.bf d.bt (k + 1)) = (d.own || hits a d.bf d.bt k)) := Lib.hid (by rw [HNX.out, decide_eq_false (fun e => p1 e.1)]; simp)
          clear p1 HNX
          go_upto_region 5 with (fail)
          (try rw [HQ.out])
          go_wp2_with fail
          go_roundw
          case rel => exact ⟨k + 1, by simp, by omega, Lib.hid ⟨by rw [HOW.out]; exact HR1.out, HRG.out⟩⟩
          case measure => simp [intOf]; omega
      · obtain rfl : k = n := by omega
        have k2 : ¬ ((k : Int) < (k : Int)) := by omega
        go_wp2_with fail
        go_end0
        refine ⟨rfl, _, ?_, by rw [HVS.out]; exact HR.out.2⟩
        have e : d.stored a k = { d with stores := d.stores ++ [(a, un)], own := d.own || hits a d.bf d.bt k } := by unfold RunD.stored; rw [HUU.out]
        rw [e]; exact HR.out.1
end
end Go.Proofs.Ytlfnddmncbkjaab.W
