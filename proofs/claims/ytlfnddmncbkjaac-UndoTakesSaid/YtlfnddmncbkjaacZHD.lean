import Derived.Test.YtlfnddmncbkjaacZMB
import Derived.Test.YtlfnddmncbkjaacZMA
import Derived.Test.YtlfnddmncbkjaacZGL
import Derived.Test.YtlfnddmncbkjaacZGJ
set_option linter.unusedVariables false
set_option linter.unusedSimpArgs false
set_option maxRecDepth 100000
set_option maxHeartbeats 4000000
namespace Go.Proofs.Ytlfnddmncbkjaac.W
open Go.RowKit Fb
theorem fits1_any (k : Int) (mb n c : Nat) (ao : Option Addr) (w : World) (hc : w.cell? ⟨mb, 1, none⟩ = some (.slice ao n c)) (hk : i64ok k) :
    Calls Try.prog 58 #[.int .i64 k, .pointer (some ⟨mb, 0, none⟩)] w fun e w' => e = .returned (.bool (decide (0 ≤ k) && decide (k < (n : Int)))) ∧ w' = w := by
  obtain ⟨h1, h2⟩ := hk
  by_cases c0 : 0 ≤ k
  · by_cases c1 : k < (n : Int)
    · have e : (decide (0 ≤ k) && decide (k < (n : Int))) = true := by simp [c0, c1]
      rw [e]
      go_enter Try.func58, Try.ntmps58
      go_wp2
      go_ret
      exact ⟨rfl, rfl⟩
    · have e : (decide (0 ≤ k) && decide (k < (n : Int))) = false := by simp [c1]
      rw [e]
      go_enter Try.func58, Try.ntmps58
      go_wp2
      go_ret
      exact ⟨rfl, rfl⟩
  · have e : (decide (0 ≤ k) && decide (k < (n : Int))) = false := by simp [c0]
    rw [e]
    go_enter Try.func58, Try.ntmps58
    go_wp2
    go_ret
    exact ⟨rfl, rfl⟩
theorem fits_any (vm vh : Value) (m : Mach) (x : UndD) (w : World) (hm : MachAt w vm vh m) (hl : Sl w x.vl 2 x.d.lost.length (x.d.lost.flatMap llist)) (hb : Sl w x.vb 1 x.d.bytes.length (x.d.bytes.map (Value.int .u8))) (wf : x.d.was.Wf) (hr : i64ok x.d.hart ∧ U32 x.d.frm ∧ Bytes x.d.bytes ∧ ∀ p ∈ x.d.lost, i64ok p.1 ∧ U32 p.2) (wfm : ∀ h ∈ m.harts, h.Wf) :
    Calls Try.prog 36 #[.agg #[vm, vh], .agg (ulist x).toArray] w fun e w' => e = .returned (.bool (fitsU m x.d)) ∧ Below w.heap.size w w' := by
  obtain ⟨aom, capm, rfl, hcm, hmm, _, _⟩ := hm.1.open
  obtain ⟨aoh, caph, rfl, hch, hmh, _, _⟩ := hm.2.open (fun h hh => hlist_length (wfm h hh)) om
  obtain ⟨aob, capb, hvb, hcb, hmb, _, _⟩ := Ints.open (l := x.d.bytes) hb
  obtain ⟨aol, capl, hvl, hcl, hml, _, hol⟩ := Sl.open hl (fun _ _ => rfl) om
  unfold maxLen at hmm hmh hmb hml
  obtain ⟨w1, hw1⟩ : ∃ w1, w1 = (w.alloc (.cells #[.slice aom m.mem.length capm, .slice aoh m.harts.length caph] 25)).alloc (.cells (ulist x).toArray 93) := ⟨_, rfl⟩
  have hb1 : Below w.heap.size w w1 := by rw [hw1]; exact (Below.alloc br (Nat.le_refl _) _).alloc zH _
  have hs1 : w1.heap.size = w.heap.size + 2 := by rw [hw1]; simp
  have c0 : w1.cell? ⟨w.heap.size, 0, none⟩ = some (.slice aom m.mem.length capm) := by rw [hw1]; go_cell
  have c1 : w1.cell? ⟨w.heap.size, 1, none⟩ = some (.slice aoh m.harts.length caph) := by rw [hw1]; go_cell
  have hux := ulist_at wf.len (show At w1 (w.heap.size + 1) 0 (ulist x) from by
    rw [hw1]
    have := at_alloc (w.alloc (.cells #[.slice aom m.mem.length capm, .slice aoh m.harts.length caph] 25)) (ulist x) 93 (0, 0)
    rwa [World.size_alloc] at this)
  simp only [Nat.zero_add] at hux
  obtain ⟨x0, x1, x38, x39, x40⟩ := hux
  rw [hvb] at x39
  rw [hvl] at x40
  obtain ⟨ll, hll⟩ : ∃ q : Nat, q = x.d.lost.length := ⟨_, rfl⟩
  obtain ⟨bl, hbl⟩ : ∃ q : Nat, q = x.d.bytes.length := ⟨_, rfl⟩
  obtain ⟨f, hf⟩ : ∃ q : Int, q = x.d.frm := ⟨_, rfl⟩
  obtain ⟨k, hk⟩ : ∃ q : Int, q = x.d.hart := ⟨_, rfl⟩
  have hrf := hr.2.1
  have hrk := hr.1
  rw [← hf] at hrf x38
  rw [← hk] at hrk x0
  rw [← hll] at x40
  rw [← hbl] at x39 hcb
  have HR := lI hr.2.2.2
  have HOL := lI hol
  have HLL := lI hll
  have HBL := lI hbl
  have HF := lI hf
  have HK := lI hk
  have HW1 := lI hw1
  have HB1 := lI hb1
  have HWF := lI wf
  have HIS := lI (fun q W hW hq => fits1_any q w.heap.size m.harts.length caph aoh W hW hq)
  have HFIT : Hid (fitsU m x.d = (x.d.lost.all (fun p => decide (0 ≤ p.1) && decide (p.1 < (m.harts.length : Int))) && ((decide (0 ≤ k) && decide (k < (m.harts.length : Int))) && x.d.was.ok && decide (f + (bl : Int) ≤ (m.mem.length : Int))))) := lI (by rw [hf, hk, hbl]; rfl)
  obtain ⟨ft, hft⟩ : ∃ b, b = fitsU m x.d := ⟨_, rfl⟩
  rw [← hft] at HFIT ⊢
  clear hft hw1 hb1 hf hk hll hbl hm hl hb hr wf hol hvb hvl
  go_enter Try.func36, Try.ntmps36
  go_upto_region 1 with (fail)
  rw [← HW1.out]
  go_wp2_with fail
  go_loopw [12] (fun i wr => ∃ q : Nat, i = .int .i64 q ∧ q ≤ ll ∧ Hid (Below w1.heap.size w1 wr ∧ (x.d.lost.take q).all (fun p => decide (0 ≤ p.1) && decide (p.1 < (m.harts.length : Int))) = true)) (fun i _ => ll - (intOf i).toNat)
  case atStart => exact ⟨0, rfl, om, lI ⟨Below.refl _ _, rfl⟩⟩
  case round =>
    obtain ⟨q, rfl, hq, HQ⟩ := hrel
    have hsr := HQ.out.1.size
    by_cases hlq : q < ll
    · have hlq2 : q < x.d.lost.length := by have := HLL.out; omega
      obtain ⟨b, off, rfl, hbl, hel⟩ := HOL.out (by intro e; rw [e] at hlq2; simp at hlq2)
      have hat : At wr b (off + q * 2) (llist x.d.lost[q]) := (hel q hlq2).below (HB1.out.trans (HQ.out.1.mono HB1.out.size))
      have d0 := hat.get (j := 0) (v := .int .i64 x.d.lost[q].1) rfl
      have d1 := hat.get (j := 1) (v := .int .u32 x.d.lost[q].2) rfl
      simp only [Nat.add_zero] at d0
      have hp := HR.out _ (List.getElem_mem hlq2)
      have HTK : Hid (x.d.lost.take (q + 1) = x.d.lost.take q ++ [x.d.lost[q]]) := lI (List.take_succ_eq_append_getElem hlq2)
      have HMEM : Hid (x.d.lost[q] ∈ x.d.lost) := lI (List.getElem_mem hlq2)
      obtain ⟨p, hpe⟩ : ∃ p, p = x.d.lost[q] := ⟨_, rfl⟩
      rw [← hpe] at d0 d1 hp HTK HMEM
      clear hpe hat hel
      obtain ⟨pj, pa⟩ := p
      simp only at d0 d1 hp
      obtain ⟨w2, hw2⟩ : ∃ x, x = wr.alloc (.cells #[.int .i64 pj, .int .u32 pa] 95) := ⟨_, rfl⟩
      have hb2 : Below wr.heap.size wr w2 := by rw [hw2]; exact Below.alloc br (Nat.le_refl _) _
      have e0 : w2.cell? ⟨wr.heap.size, 0, none⟩ = some (.int .i64 pj) := by rw [hw2]; go_cell
      have HB2 := lI (HQ.out.1.trans (hb2.mono hsr))
      have e1 := (HB2.out.cell (p := ⟨w.heap.size, 1, none⟩) zI).trans c1
      have i0 : (0 : Int) ≤ (q : Int) := om
      have i1 : (q : Int) < (ll : Int) := om
      have HI2 := lI (HIS.out pj w2 e1 hp.1)
      have HW2 := lI hw2
      clear hb2 hw2 e1
      go_upto_region 5 with (fail)
      rw [← HW2.out]
      go_wp2_with fail
      refine HI2.out.mono ?_
      rintro e w3 ⟨rfl, rfl⟩
      cases hd : (decide (0 ≤ pj) && decide (pj < (m.harts.length : Int))) with
      | true =>
        have HD := lI hd
        clear hd
        go_wp2_with fail
        go_roundw
        case rel => exact ⟨q + 1, by simp, hlq, lI ⟨HB2.out, by rw [HTK.out, List.all_append, HQ.out.2, Bool.true_and]; simp only [List.all_cons, List.all_nil, Bool.and_true]; exact HD.out⟩⟩
        case measure => simp [intOf]; omega
      | false =>
        have hfalse : ft = false := by
          rw [HFIT.out]
          have : x.d.lost.all (fun p => decide (0 ≤ p.1) && decide (p.1 < (m.harts.length : Int))) = false := by
            rw [List.all_eq_false]
            exact ⟨(pj, pa), HMEM.out, by rw [hd]; simp⟩
          rw [this, Bool.false_and]
        subst hfalse
        have HD := lI hd
        clear hd
        go_wp2_with fail
        go_ret
        exact ⟨rfl, HB1.out.trans (HB2.out.mono HB1.out.size)⟩
    · obtain rfl : q = ll := om
      have hall := HQ.out.2
      rw [show x.d.lost.take q = x.d.lost by rw [HLL.out, List.take_length]] at hall
      have HFI2 : Hid (ft = ((decide (0 ≤ k) && decide (k < (m.harts.length : Int))) && x.d.was.ok && decide (f + (bl : Int) ≤ (m.mem.length : Int)))) := lI (by rw [HFIT.out, hall, Bool.true_and])
      have hb3 := HQ.out.1
      have y0 := (hb3.cell (p := ⟨w.heap.size, 0, none⟩) zI).trans c0
      have y1 := (hb3.cell (p := ⟨w.heap.size, 1, none⟩) zI).trans c1
      have z0 := (hb3.cell (p := ⟨w.heap.size + 1, 0, none⟩) yK).trans x0
      have z38 := (hb3.cell (p := ⟨w.heap.size + 1, 38, none⟩) yK).trans x38
      have z39 := (hb3.cell (p := ⟨w.heap.size + 1, 39, none⟩) yK).trans x39
      have z1 : At wr (w.heap.size + 1) 1 (hcells x.d.was).toList := by
        have := x1.of_lt hb3 om
        simpa [hcells] using this
      have HB3 := lI (HB1.out.trans (hb3.mono HB1.out.size))
      have HMY := lI (may_any x.d.was HWF.out wr)
      have hszh : (Try.prog.info? 67).map (·.size) = some (hcells x.d.was).size := by rw [hcells_size HWF.out]; kernel_rfl
      have HI3 := lI (HIS.out k wr y1 hrk)
      clear c0 c1 x0 x1 x38 x39 x40 hall hb3 HFIT
      go_wp2_with fail
      refine HI3.out.mono ?_
      rintro e w3 ⟨rfl, rfl⟩
      cases hd : (decide (0 ≤ k) && decide (k < (m.harts.length : Int))) with
      | false =>
        have hfalse : ft = false := by rw [HFI2.out, hd, Bool.false_and, Bool.false_and]
        subst hfalse
        clear hd
        go_wp2_with fail
        go_ret
        exact ⟨rfl, HB3.out⟩
      | true =>
        have HFI3 : Hid (ft = (x.d.was.ok && decide (f + (bl : Int) ≤ (m.mem.length : Int)))) := lI (by rw [HFI2.out, hd, Bool.true_and])
        clear hd HFI2
        go_wp2_with (first | (refine wpList_load_g zE 67 _ rfl (w.heap.size + 1) 1 rfl (hcells x.d.was) _ z1 Try.underlying67 rfl hszh ?_))
        refine HMY.out.mono ?_
        rintro e w4 ⟨rfl, hb4⟩
        have u0 := (hb4.cell (p := ⟨w.heap.size, 0, none⟩) (lt_of_cell y0)).trans y0
        have u38 := (hb4.cell (p := ⟨w.heap.size + 1, 38, none⟩) (lt_of_cell z38)).trans z38
        have u39 := (hb4.cell (p := ⟨w.heap.size + 1, 39, none⟩) (lt_of_cell z39)).trans z39
        have HB4 := lI (HB3.out.trans (hb4.mono HB3.out.size))
        clear hb4 y0 y1 z0 z38 z39 z1
        cases hok : x.d.was.ok with
        | false =>
          have hfalse : ft = false := by rw [HFI3.out, hok, Bool.false_and]
          subst hfalse
          clear hok
          go_wp2_with fail
          go_ret
          exact ⟨rfl, HB4.out⟩
        | true =>
          have HFI4 : Hid (ft = decide (f + (bl : Int) ≤ (m.mem.length : Int))) := lI (by rw [HFI3.out, hok, Bool.true_and])
          clear hok HFI3
          have v1 : IntKind.u64.wrap f = f := by
            have := hrf.1
            have := hrf.2
            simp [IntKind.wrap, IntKind.bits, IntKind.signed]; omega
          have v2 : IntKind.u64.wrap (f + (bl : Int)) = f + (bl : Int) := by
            have := hrf.1
            have := hrf.2
            simp [IntKind.wrap, IntKind.bits, IntKind.signed]; omega
          have HV := lI (And.intro v1 v2)
          clear v1 v2
          go_wp2_with fail
          go_ret
          refine ⟨?_, HB4.out⟩
          rw [HFI4.out, ← HV.out.2]
          conv => rhs; rw [← HV.out.1]
          rfl
open Go.RowKit Go.Shelf Fb
attribute [local go_sem] Oper.semAt_some
def UOk (m : Mach) (w0 : World) (x : UndD) : Prop := x.d.was.Wf ∧ Sl w0 x.vb 1 x.d.bytes.length (x.d.bytes.map (Value.int .u8)) ∧ Sl w0 x.vl 2 x.d.lost.length (x.d.lost.flatMap llist) ∧ (i64ok x.d.hart ∧ U32 x.d.frm ∧ Bytes x.d.bytes ∧ ∀ p ∈ x.d.lost, i64ok p.1 ∧ U32 p.2) ∧ fitsU m x.d = true
abbrev UA (m : Mach) (w0 : World) := { p : Nat × UndD // UOk m w0 p.2 }
def uenc {m : Mach} {w0 : World} (p : UA m w0) : Array Value := #[.int .i64 (p.1.1 : Int), .agg (ulist p.1.2).toArray]
def UKp (n₀ Bs : Nat) (A B : World) : Prop := Below n₀ A B ∧ ∀ v, A.cell? ⟨Bs, 0, none⟩ = some v → B.cell? ⟨Bs, 0, none⟩ = some v
theorem back1_in (n : Nat) (hn : 1 ≤ n) (l Bs n₀ : Nat) (ab : Option Addr) (cap : Nat) (m : Mach) (w0 : World) (xs : List UndD) (hxs : ∀ x ∈ xs, UOk m w0 x) (hl : xs.length ≤ 140737488355328) (J Jx : List (UA m w0) → World → Prop)
    (hY : ∀ pre x W, J pre W → pre.length < xs.length → YieldAt Fence.wide (n - 1) Try.prog l (uenc x) W fun e W' =>
      (e = .returned (.bool true) ∧ J (pre ++ [x]) W' ∧ UKp n₀ Bs W W') ∨ (e = .returned (.bool false) ∧ Jx (pre ++ [x]) W'))
    (W : World) (hBs : W.cell? ⟨Bs, 0, none⟩ = some (.slice ab xs.length cap)) (hat : xs ≠ [] → ∃ b off, ab = some ⟨b, off, none⟩ ∧ b < n₀ ∧ ∀ k (h : k < xs.length), At W b (off + k * 41) (ulist xs[k])) (hn0 : n₀ ≤ W.heap.size) (h0 : J [] W) :
    CallsIn Fence.wide n Try.prog 59 #[.func (.yield l) #[] #[], .pointer (some ⟨Bs, 0, none⟩)] W fun e W' => (∃ v, e = .returned v) ∧
      ((∃ ys : List (UA m w0), ys.map (·.1.2) = xs.reverse ∧ J ys W') ∨ (∃ pre, True ∧ Jx pre W')) := by
  refine callsIn_of_wp Try.func59 rfl trivial ?_ rfl
  simp only [Try.ntmps59, List.size_toArray, List.length_cons, List.length_nil, Nat.reduceAdd, Nat.reduceSub, Array.replicate_succ, Array.replicate_zero, List.push_toArray, List.append_toArray, List.nil_append, List.cons_append]
  gi_wp2
  gi_loopw [3] (fun i wr => ∃ (k : Nat) (pre : List (UA m w0)), k ≤ xs.length ∧ i = .int .i64 ((xs.length : Int) - 1 - (k : Int)) ∧ pre.length = k ∧ Hid (pre.map (·.1.2) = xs.reverse.take k ∧ J pre wr ∧ UKp n₀ Bs W wr))
    (fun i _ => (intOf i + 1).toNat)
  case atStart => exact ⟨0, [], Nat.zero_le _, by simp, rfl, lI ⟨rfl, h0, Below.refl _ _, fun _ h => h⟩⟩
  case round =>
    obtain ⟨k, pre, hk, hi, hpl, HR⟩ := hrel
    have hbs := HR.out.2.2.2 _ hBs
    by_cases hlt : k < xs.length
    · obtain ⟨q, hq⟩ := Int.eq_ofNat_of_zero_le (show 0 ≤ (xs.length : Int) - 1 - (k : Int) by omega)
      rw [hq] at hi
      subst hi
      have hql : q < xs.length := om
      obtain ⟨b, off, rfl, hb, hel⟩ := hat zO
      have hatx : At wr b (off + q * 41) (ulist xs[q]).toArray.toList := (hel q hql).of_lt HR.out.2.2.1 hb
      have hx := hxs xs[q] (List.getElem_mem hql)
      have HTK : Hid (xs.reverse.take (k + 1) = xs.reverse.take k ++ [xs[q]]) := lI (by
        rw [List.take_succ_eq_append_getElem (by rw [List.length_reverse]; exact hlt), List.getElem_reverse]
        congr 2
        congr 1
        omega)
      obtain ⟨x, hxe⟩ : ∃ x, x = xs[q] := ⟨_, rfl⟩
      rw [← hxe] at hatx hx HTK
      obtain ⟨fn, tmps, assign, body, hy, hR⟩ := hY pre ⟨(q, x), hx⟩ wr HR.out.2.1 om
      have hx41 : (ulist x).toArray.size = 41 := by rw [List.size_toArray, ulist_len hx.1.len]
      have hszx : (Try.prog.info? 93).map (·.size) = some (ulist x).toArray.size := by rw [hx41]; kernel_rfl
      dsimp only [uenc] at hy
      have i0 : (0 : Int) ≤ (q : Int) := om
      have i1 : (q : Int) < (xs.length : Int) := om
      have HQ := lI hq
      clear hel hq hxe hat
      gi_wp2_with (first | (refine wpListIn_load_at0 rfl 93 _ rfl b (off + q * 41) rfl (ulist x).toArray _ hatx Try.underlying93 rfl hszx ?_))
      refine hR.mono ?_
      rintro e W3 (⟨rfl, hJ3, hk3⟩ | ⟨rfl, hJx3⟩)
      · gi_wp2
        go_roundw
        case rel => exact ⟨k + 1, pre ++ [⟨(q, x), hx⟩], hlt, by have := HQ.out; congr 1; omega, by simp [hpl], lI ⟨by rw [List.map_append, HR.out.1, HTK.out]; rfl, hJ3, HR.out.2.2.1.trans hk3.1, fun v h => hk3.2 v (HR.out.2.2.2 v h)⟩⟩
        case measure => (simp [intOf]) <;> omega
      · gi_wp2
        refine bodyPost_ret (results_none rfl _ _ _) rfl ?_
        exact ⟨⟨_, rfl⟩, .inr ⟨_, trivial, hJx3⟩⟩
    · obtain rfl : k = xs.length := om
      have hi2 : u3 = .int .i64 (-1) := by rw [hi]; congr 1; omega
      subst hi2
      have HP := lI (show pre.map (·.1.2) = xs.reverse by rw [HR.out.1, ← List.length_reverse, List.take_length])
      clear hi
      gi_wp2
      go_end0
      exact ⟨⟨_, rfl⟩, .inl ⟨_, HP.out, HR.out.2.1⟩⟩
theorem backward_any (a : Option Addr) (len cap : Nat) (w : World) :
    Calls Try.prog 37 #[.slice a len cap] w fun e w' => e = .returned (.func (.func 59) #[] #[.pointer (some ⟨w.heap.size, 0, none⟩)]) ∧ w' = w.alloc (.cells #[.slice a len cap] 41) := by
  go_enter Try.func37, Try.ntmps37
  go_wp2
  go_ret
  exact ⟨rfl, rfl⟩
theorem back_stops (n : Nat) (hn : 1 ≤ n) (Bs n₀ : Nat) (ab : Option Addr) (cap : Nat) (m : Mach) (w0 : World) (xs : List UndD) (hxs : ∀ x ∈ xs, UOk m w0 x) (hl : xs.length ≤ 140737488355328) (w : World) (hBl : Bs < w.heap.size) (hn0 : n₀ ≤ w.heap.size)
    (hBs : w.cell? ⟨Bs, 0, none⟩ = some (.slice ab xs.length cap)) (hat : xs ≠ [] → ∃ b off, ab = some ⟨b, off, none⟩ ∧ b < n₀ ∧ ∀ k (h : k < xs.length), At w b (off + k * 41) (ulist xs[k])) :
    SeqStopsK Fence.wide n Try.prog 59 #[.pointer (some ⟨Bs, 0, none⟩)] (uenc (m := m) (w0 := w0)) (UKp n₀ Bs) (fun ys => ys.map (·.1.2) = xs.reverse) (fun _ => True) xs.length w := fun l J Jx W hW _ _ hY h0 =>
  back1_in n hn l Bs n₀ ab cap m w0 xs hxs hl J Jx hY W ((hW.cell hBl).trans hBs) (fun hne => by
    obtain ⟨b, off, h1, h2, h3⟩ := hat hne
    exact ⟨b, off, h1, h2, fun k h => (h3 k h).of_lt hW om⟩) (Nat.le_trans hn0 hW.size) h0
theorem ukp_t {n₀ Bs : Nat} {A B C : World} (h : UKp n₀ Bs A B) (k : UKp n₀ Bs B C) : UKp n₀ Bs A C := ⟨h.1.trans k.1, fun v e => k.2 v (h.2 v e)⟩
theorem ukp_b {n₀ Bs : Nat} {w : World} (hn : n₀ ≤ w.heap.size) (W : World) (l : Nat) (o o' : Obj) (hl : w.heap.size ≤ l) (h : W.heap[l]? = some o) (hc : o.isCells = false) (hw : o.isWalk = false) : UKp n₀ Bs W (W.putObj l o') :=
  ⟨belowK_b hn W l o o' hl h hc hw, fun v e => cell_kept e (grownBy_putObj' W l o') (fun r e2 => by cases e2; exact ⟨o, h, hc⟩)⟩
attribute [local go_sem] Oper.semAt_some
structure BI (B nb bh hc Bs : Nat) (vm : Value) (w0 W : World) (m mc : Mach) : Prop where
  c0 : W.cell? ⟨nb, 0, none⟩ = some vm
  c1 : W.cell? ⟨nb, 1, none⟩ = some (.slice (some ⟨bh, 0, none⟩) mc.harts.length hc)
  harts : At W bh 0 (mc.harts.flatMap hlist)
  hfz : ∀ o, W.frozen? ⟨bh, o, none⟩ = false
  bytes : Ints .u8 W vm mc.mem
  mfz : mc.mem ≠ [] → ∀ q, vm.ownBlock = some q → (B ≤ q ∧ q ≠ nb ∧ q ≠ bh ∧ q ≠ Bs) ∧ ∀ o, W.frozen? ⟨q, o, none⟩ = false
  geo : B ≤ bh ∧ B ≤ nb ∧ nb ≠ bh ∧ Bs ≠ bh ∧ Bs ≠ nb
  hlt : bh < W.heap.size
  len1 : mc.harts.length = m.harts.length ∧ 1 ≤ m.harts.length ∧ m.harts.length ≤ 4
  len2 : mc.mem.length = m.mem.length ∧ m.mem.length ≤ 4096
  wf : mc.Wf
  hcap : mc.harts.length ≤ hc ∧ hc ≤ maxLen
  bel : Below B w0 W
theorem BI.keep {B nb bh hc Bs : Nat} {vm : Value} {w0 W C : World} {m mc : Mach} (h : BI B nb bh hc Bs vm w0 W m mc) (hk : ∀ q, (q = nb ∨ q = bh ∨ (mc.mem ≠ [] ∧ vm.ownBlock = some q)) → C.heap[q]? = W.heap[q]?) (hs : W.heap.size ≤ C.heap.size) (hb : Below B w0 C) : BI B nb bh hc Bs vm w0 C m mc :=
  ⟨(cell_block (hk nb (.inl rfl)) _).trans h.c0, (cell_block (hk nb (.inl rfl)) _).trans h.c1, fun j hj => (cell_block (hk bh (.inr (.inl rfl))) _).trans (h.harts j hj), fun o => (frozen_block (hk bh (.inr (.inl rfl))) o).trans (h.hfz o), ints_move h.bytes (fun hne q e => hk q (.inr (.inr ⟨hne, e⟩))),
    fun hne q e => ⟨(h.mfz hne q e).1, fun o => (frozen_block (hk q (.inr (.inr ⟨hne, e⟩))) o).trans ((h.mfz hne q e).2 o)⟩, h.geo, Nat.lt_of_lt_of_le h.hlt hs, h.len1, h.len2, h.wf, h.hcap, hb⟩
theorem BI.ne {B nb bh hc Bs : Nat} {vm : Value} {w0 W : World} {m mc : Mach} (h : BI B nb bh hc Bs vm w0 W m mc) : mc.harts.flatMap hlist ≠ [] := by
  have h1 := h.len1
  cases e : mc.harts with
  | nil => rw [e] at h1; simp at h1; omega
  | cons x r =>
    intro e2
    have := congrArg List.length e2
    rw [List.flatMap_cons, List.length_append, hlist_length (h.wf.harts x (by rw [e]; simp))] at this
    simp at this
theorem BI.own {B nb bh hc Bs B' : Nat} {vm : Value} {w0 A C : World} {m mc : Mach} {row : Option Nat} (h : BI B nb bh hc Bs vm w0 A m mc) (hB : B ≤ B') (hg : A.grownBy C row) (hr : ∀ r, row = some r → B' ≤ r ∧ ∃ o : Obj, A.heap[r]? = some o ∧ o.isCells = false) : BI B nb bh hc Bs vm w0 C m mc := by
  have hr2 := fun r e => (hr r e).2
  refine h.keep (fun q hq => ?_) hg.size (h.bel.grown hg (by have := h.hlt; have := h.geo; omega) (fun k e => Nat.le_trans hB (hr k e).1))
  rcases hq with rfl | rfl | ⟨hne, e⟩
  · exact heap_kept h.c0 hg hr2
  · exact heap_kept (h.harts 0 (List.length_pos_iff.2 h.ne)) hg hr2
  · obtain ⟨ao, cap, rfl, _, _, _, ho⟩ := h.bytes.open
    obtain ⟨b, off, rfl, _, hx⟩ := ho hne
    cases e
    exact heap_kept (hx 0 (List.length_pos_iff.2 hne)) hg hr2
theorem cell_setCells_out {b o : Nat} : ∀ (vs : List Value) (i : Nat), (o < i ∨ i + vs.length ≤ o) → ∀ (W : World), (W.setCells b i vs).cell? ⟨b, o, none⟩ = W.cell? ⟨b, o, none⟩
  | [], _, _, _ => rfl
  | v :: r, i, h, W => by
    rw [List.length_cons] at h
    show ((W.setCell ⟨b, i, none⟩ v).setCells b (i + 1) r).cell? _ = _
    rw [cell_setCells_out r (i + 1) om _]
    exact World.cell?_setCell_other _ _ _ _ zF
theorem BI.hartTo {B nb bh hc Bs : Nat} {vm : Value} {w0 W C : World} {m mc : Mach} (h : BI B nb bh hc Bs vm w0 W m mc) {k : Nat} {x : Hart} (hx : x.Wf) (hk : ∀ q, q ≠ bh → C.heap[q]? = W.heap[q]?) (hs : C.heap.size = W.heap.size) (hat : At C bh (k * 37) (hlist x)) (hc' : ∀ o, (o < k * 37 ∨ k * 37 + 37 ≤ o) → C.cell? ⟨bh, o, none⟩ = W.cell? ⟨bh, o, none⟩) (hf : ∀ o, C.frozen? ⟨bh, o, none⟩ = false) (hb : Below B w0 C) :
    BI B nb bh hc Bs vm w0 C m { mc with harts := mc.harts.set k x } := by
  obtain ⟨g1, g2, g3, g4, g5⟩ := h.geo
  have hnb := hk nb g3
  refine ⟨(cell_block hnb _).trans h.c0, by show _ = some (Value.slice _ (mc.harts.set k x).length hc); rw [List.length_set]; exact (cell_block hnb _).trans h.c1, at_harts_set h.harts (fun y hy => hlist_length (h.wf.harts y hy)) (hlist_length hx) hat hc', hf, ints_move h.bytes (fun hne q e => hk q (h.mfz hne q e).1.2.2.1),
    fun hne q e => ⟨(h.mfz hne q e).1, fun o => (frozen_block (hk q (h.mfz hne q e).1.2.2.1) o).trans ((h.mfz hne q e).2 o)⟩, h.geo, by rw [hs]; exact h.hlt, by show (mc.harts.set k x).length = _ ∧ _; rw [List.length_set]; exact h.len1, h.len2, ⟨h.wf.mem, fun y hy => ?_⟩, by show (mc.harts.set k x).length ≤ _ ∧ _; rw [List.length_set]; exact h.hcap, hb⟩
  rcases List.mem_or_eq_of_mem_set hy with hy | rfl
  · exact h.wf.harts y hy
  · exact hx
theorem BI.hart {B nb bh hc Bs : Nat} {vm : Value} {w0 W : World} {m mc : Mach} (h : BI B nb bh hc Bs vm w0 W m mc) {k : Nat} {x : Hart} (hx : x.Wf) (hk : k < mc.harts.length) :
    BI B nb bh hc Bs vm w0 (W.setCells bh (k * 37) (hcells x).toList) m { mc with harts := mc.harts.set k x } ∧ W.there bh (k * 37) (hcells x).size := by
  have hat0 := at_hart h.harts (fun y hy => hlist_length (h.wf.harts y hy)) hk
  have hl : (hlist mc.harts[k]).length = 37 := hlist_length (h.wf.harts _ (List.getElem_mem hk))
  have hth : W.there bh (k * 37) 37 := there_at hat0 hl h.hfz
  have h37 : (hcells x).toList.length = 37 := by simp [hcells, hlist_length hx]
  have hz : (hcells x).size = 37 := hcells_size hx
  refine ⟨h.hartTo hx (fun q hq => heap_setCells hq _ _ _) (size_setCells _ _ _ _) ?_ (fun o ho => ?_) (fun o => by rw [World.frozen?_setCells]; exact h.hfz o) (below_setCells h.geo.1 _ _ _ h.bel), by rw [hz]; exact hth⟩
  · have := at_set_all (w := W) (b := bh) (o := k * 37) (vs := (hcells x).toList) (by rw [h37]; exact hth)
    simpa [hcells] using this
  · exact cell_setCells_out (hcells x).toList _ (by rw [h37]; exact ho) W
theorem BI.reset {B nb bh hc Bs : Nat} {vm : Value} {w0 W : World} {m mc : Mach} (h : BI B nb bh hc Bs vm w0 W m mc) {k : Nat} {a : Int} (ha : U32 a) (hk : k < mc.harts.length) :
    BI B nb bh hc Bs vm w0 ((W.setCell ⟨bh, k * 37 + 33, none⟩ (.bool true)).setCell ⟨bh, k * 37 + 34, none⟩ (.int .u32 a)) m { mc with harts := reset1 ((k : Int), a) mc.harts } := by
  have hat0 := at_hart h.harts (fun y hy => hlist_length (h.wf.harts y hy)) hk
  have wf := h.wf.harts _ (List.getElem_mem hk)
  have hl : (hlist mc.harts[k]).length = 37 := hlist_length wf
  have e : reset1 ((k : Int), a) mc.harts = mc.harts.set k { mc.harts[k] with held := true, heldAt := a } := by
    unfold reset1
    simp only [Int.toNat_natCast]
    rw [List.getD_eq_getElem?_getD, List.getElem?_eq_getElem hk]
    rfl
  rw [e]
  refine h.hartTo ⟨wf.len, wf.regs, wf.pc, ha, wf.state, wf.cause⟩ (fun q hq => (Below.heap_setCell _ _ _ _ (by show q ≠ bh; exact hq)).trans (Below.heap_setCell _ _ _ _ (by show q ≠ bh; exact hq))) (by simp [World.setCell]) ?_ (fun o ho => ?_) (fun o => (World.frozen?_setCell _ _ _ _).trans ((World.frozen?_setCell _ _ _ _).trans (h.hfz o))) ((h.bel.setCell (p := ⟨bh, k * 37 + 33, none⟩) h.geo.1 _).setCell (p := ⟨bh, k * 37 + 34, none⟩) h.geo.1 _)
  · have h1 := (hat0.set 33 om (.bool true)).set 34 (by rw [List.length_set]; omega) (.int .u32 a)
    rw [← hlist_setHeld wf.len, ← hlist_setHeldAt (h := { mc.harts[k] with held := true }) wf.len] at h1
    exact h1
  · exact (World.cell?_setCell_other _ _ _ _ zF).trans (World.cell?_setCell_other _ _ _ _ zF)
theorem BI.copy {B nb bh hc Bs mb off cap : Nat} {w0 W : World} {m mc : Mach} (h : BI B nb bh hc Bs (.slice (some ⟨mb, off, none⟩) mc.mem.length cap) w0 W m mc) {f : Int} {bs : List Int} (h0 : 0 ≤ f) (hf : f + bs.length ≤ mc.mem.length) (hbs : Bytes bs) (hne : bs ≠ []) :
    BI B nb bh hc Bs (.slice (some ⟨mb, off, none⟩) mc.mem.length cap) w0 (W.setCells mb (off + f.toNat) (bs.map (Value.int .u8))) m { mc with mem := patch mc.mem f bs } ∧ (∀ j, j < bs.length → (W.cell? ⟨mb, off + f.toNat + j, none⟩).isSome = true) ∧ ∀ o, W.frozen? ⟨mb, o, none⟩ = false := by
  have hl : 0 < bs.length := List.length_pos_iff.2 hne
  have hm : mc.mem ≠ [] := by intro e; rw [e] at hf; simp at hf; omega
  obtain ⟨⟨q1, q2, q3, q4⟩, q5⟩ := h.mfz hm mb rfl
  obtain ⟨n1, ao, c', e1, n2, n3, n4, n5⟩ := h.bytes
  injection e1 with e2 e3 e4
  subst e2 e4
  have hat := (n5 _ rfl (by intro e; exact hm (List.map_eq_nil_iff.1 e))).2
  simp only at hat
  have hpl := patch_len h0 hf
  obtain ⟨k, rfl⟩ := Int.eq_ofNat_of_zero_le h0
  have hk : k + bs.length ≤ mc.mem.length := om
  rw [Int.toNat_natCast]
  have hcl : ∀ j, j < bs.length → (W.cell? ⟨mb, off + k + j, none⟩).isSome = true := fun j hj => by
    rw [Nat.add_assoc, hat (k + j) yA]; rfl
  have hth : W.there mb (off + k) (bs.map (Value.int .u8)).length := fun j hj => ⟨hcl j (by rw [List.length_map] at hj; exact hj), q5 _⟩
  have hout : ∀ o, (o < off + k ∨ off + k + bs.length ≤ o) → (W.setCells mb (off + k) (bs.map (Value.int .u8))).cell? ⟨mb, o, none⟩ = W.cell? ⟨mb, o, none⟩ := fun o ho => cell_setCells_out _ _ (by rw [List.length_map]; exact ho) W
  have hmid : At (W.setCells mb (off + k) (bs.map (Value.int .u8))) mb (off + k) (bs.map (Value.int .u8)) := at_set_all hth
  have hbk : ∀ q, q ≠ mb → (W.setCells mb (off + k) (bs.map (Value.int .u8))).heap[q]? = W.heap[q]? := fun q hq => heap_setCells hq _ _ _
  have hnew : At (W.setCells mb (off + k) (bs.map (Value.int .u8))) mb off ((patch mc.mem (k : Int) bs).map (Value.int .u8)) := by
    unfold patch
    rw [Int.toNat_natCast, List.map_append, List.map_append]
    have htk : (mc.mem.take k).length = k := by rw [List.length_take]; omega
    refine At.append (At.append (fun j hj => ?_) ?_) (fun j hj => ?_)
    · rw [List.length_map, htk] at hj
      rw [hout _ om, hat j yA]
      simp
    · rw [List.length_map, htk]; exact hmid
    · rw [List.length_append, List.length_map, List.length_map, htk]
      rw [List.length_map, List.length_drop] at hj
      rw [hout _ om, show off + (k + bs.length) + j = off + (k + bs.length + j) by omega, hat _ yA]
      simp
  refine ⟨⟨(cell_block (hbk nb (Ne.symm q2)) _).trans h.c0, (cell_block (hbk nb (Ne.symm q2)) _).trans h.c1, fun j hj => (cell_block (hbk bh (Ne.symm q3)) _).trans (h.harts j hj), fun o => (frozen_block (hbk bh (Ne.symm q3)) o).trans (h.hfz o), ?_, fun _ q e => ?_, h.geo, by rw [size_setCells]; exact h.hlt, h.len1, ⟨hpl.trans h.len2.1, h.len2.2⟩, ⟨?_, h.wf.harts⟩, h.hcap, below_setCells q1 _ _ _ h.bel⟩, hcl, q5⟩
  · refine ⟨by simp, _, cap, by rw [hpl], by rw [hpl]; exact n2, n3, (by intro e; cases e), fun a ha _ => ?_⟩
    cases ha
    exact ⟨rfl, hnew⟩
  · obtain rfl : mb = q := by cases e; rfl
    exact ⟨⟨q1, q2, q3, q4⟩, fun o => by rw [World.frozen?_setCells]; exact q5 o⟩
  · intro x hx
    unfold patch at hx
    rcases List.mem_append.1 hx with hx | hx
    · rcases List.mem_append.1 hx with hx | hx
      · exact h.wf.mem x (List.mem_of_mem_take hx)
      · exact hbs x hx
    · exact h.wf.mem x (List.mem_of_mem_drop hx)
attribute [local go_sem] Oper.semAt_some
def backF {m : Mach} {w0 : World} (pre : List (UA m w0)) : Mach := pre.foldl (fun mc x => backOne x.1.2.d mc) m
theorem addr_add' (b o j : Nat) : Addr.add ⟨b, o, none⟩ j = ⟨b, o + j, none⟩ := by unfold Addr.add; split <;> simp_all
theorem meas_lt {q ll : Nat} (h : q < ll) : ll - (intOf (Value.int .i64 ((q + 1 : Nat) : Int))).toNat < ll - (intOf (Value.int .i64 (q : Int))).toNat := by
  show ll - (((q + 1 : Nat) : Int)).toNat < ll - ((q : Int)).toNat
  rw [Int.toNat_natCast, Int.toNat_natCast]
  omega
theorem wrap_succ {q ll : Nat} (h : q < ll) (hl : (ll : Int) ≤ 9223372036854775807) : wrap64 ((q : Int) + 1) = ((q + 1 : Nat) : Int) := by
  unfold wrap64
  omega
theorem retM0 {F : Fence} {n : Nat} {P : Program} {fn : Func} {R : Ending → World → Prop} {a : Act} {w : World} {v : Value} (hr : (results fn a.tmps).run P w = .ok v w) (hd : a.defers = []) (hR : R (.returned v) w) : bodyPostM F n P fn R .ret a w := by
  show LeavesInM F n P fn a.tmps R a.defers .returning w
  rw [hd]
  exact ⟨v, hr, hR⟩
theorem UR.ok {w : World} {v : Value} {us : List UndD} {m : Mach} (h : UR w v us) {x : UndD} (hx : x ∈ us) (hf : fitsU m x.d = true) : UOk m w x := ⟨h.wf x hx, h.byt x hx, h.los x hx, h.rng x hx, hf⟩
theorem back_any (vm0 vh0 v : Value) (m : Mach) (wf : m.Wf) (us : List UndD) (steps : Int) (w : World) (hm : MachAt w vm0 vh0 m) (hu : UR w v us) (hst : i64ok steps) (hul : us.length ≤ 140737488355328) :
    Calls Try.prog 18 #[.agg #[vm0, vh0], v, .int .i64 steps] w fun e w' => (∃ vm vh, e = .returned (.tuple #[.agg #[vm, vh], .int .i64 (backS m (us.map (·.d)) steps).2]) ∧ MachAt w' vm vh (backS m (us.map (·.d)) steps).1) ∧ Below w.heap.size w w' := by
  obtain ⟨aom, capm, rfl, hcm, hmm, _, _⟩ := hm.1.open
  obtain ⟨aoh, caph, rfl, hch, hmh, _, _⟩ := hm.2.open (fun h hh => hlist_length (wf.harts h hh)) om
  obtain ⟨ao, cap, rfl, hc, hmc, _, ho⟩ := Sl.open hu.row (fun x hx => ulist_len (hu.wf x hx).len) om
  unfold maxLen at hmm hmh hmc
  obtain ⟨w1, hw1⟩ : ∃ w1, w1 = (w.alloc (.cells #[.slice aom m.mem.length capm, .slice aoh m.harts.length caph] 25)).alloc (.cells #[.slice none 0 0, .slice none 0 0] 25) := ⟨_, rfl⟩
  have hb1 : Below w.heap.size w w1 := by rw [hw1]; exact Fb.blw
  have hs1 : w1.heap.size = w.heap.size + 2 := by rw [hw1]; simp
  have c0 : w1.cell? ⟨w.heap.size, 0, none⟩ = some (.slice aom m.mem.length capm) := by rw [hw1]; go_cell
  have c1 : w1.cell? ⟨w.heap.size, 1, none⟩ = some (.slice aoh m.harts.length caph) := by rw [hw1]; go_cell
  have HZ : Hid (w1.heap[w.heap.size + 1]? = some (.cells #[.slice none 0 0, .slice none 0 0] 25 (0, 0))) := lI (by
    have := heap_alloc_new (w.alloc (.cells #[.slice aom m.mem.length capm, .slice aoh m.harts.length caph] 25)) (.cells #[.slice none 0 0, .slice none 0 0] 25)
    rw [World.size_alloc] at this
    rw [hw1]; exact this)
  have HM := lI (hm.below hb1)
  have HU := lI hu
  have HO := lI ho
  have HMAY := lI (machmay_any _ _ (.slice none 0 0) m wf [] w1 (hm.below hb1) (Sl.nil _ _) (by intro p hp; cases hp))
  have HW1 := lI hw1
  have HB1 := lI hb1
  obtain ⟨R, hR⟩ : ∃ R, R = backS m (us.map (·.d)) steps := ⟨_, rfl⟩
  rw [← hR]
  have HR := lI hR
  have hsz5 : (Try.prog.info? 25).map (·.size) = some (#[.slice none 0 0, .slice none 0 0] : Array Value).size := by show _ = some 2; kernel_rfl
  have hall : (#[.slice none 0 0, .slice none 0 0] : Array Value).all (·.oneCell') = true := by simp [Value.oneCell']
  have HEND : Hid (∀ (W : World) (c : Int), Below w1.heap.size w1 W → R = (⟨[], []⟩, c) → W.there (w.heap.size + 1) 0 2 ∧ (loadVar 25 ⟨w.heap.size + 1, 0, none⟩).run Try.prog (W.setCells (w.heap.size + 1) 0 [.slice none 0 0, .slice none 0 0]) = .ok (.agg #[.slice none 0 0, .slice none 0 0]) (W.setCells (w.heap.size + 1) 0 [.slice none 0 0, .slice none 0 0]) ∧ ((∃ vm vh, (Ending.returned (.tuple #[.agg #[.slice none 0 0, .slice none 0 0], .int .i64 c])) = .returned (.tuple #[.agg #[vm, vh], .int .i64 R.2]) ∧ MachAt (W.setCells (w.heap.size + 1) 0 [.slice none 0 0, .slice none 0 0]) vm vh R.1) ∧ Below w.heap.size w (W.setCells (w.heap.size + 1) 0 [.slice none 0 0, .slice none 0 0]))) := lI (fun W c hW e => by
    have ht : W.there (w.heap.size + 1) 0 2 := there_blk ((hW.block (w.heap.size + 1) om).trans HZ.out) rfl
    refine ⟨ht, load_setCells (P := Try.prog) (cs := #[.slice none 0 0, .slice none 0 0]) ht Try.underlying25 rfl hsz5, ⟨_, _, by rw [e], ?_⟩, below_setCells om _ _ _ (HB1.out.trans (hW.mono om))⟩
    rw [e]
    exact (shown_nil _ 0).mach)
  clear hw1 hm hu ho hb1 hR
  refine (callsIn_wide (n := 6)).1 ?_
  refine callsIn_of_wp_marks Try.func18 rfl trivial ?_ rfl
  refine wpIn_wide.2 ?_
  simp only [Try.ntmps18, List.size_toArray, List.length_cons, List.length_nil, Nat.reduceAdd, Nat.reduceSub, Array.replicate_succ, Array.replicate_zero, List.push_toArray, List.append_toArray, List.nil_append, List.cons_append]
  go_upto_region 1 with (fail)
  rw [← HW1.out]
  go_wp2_with fail
  refine HMAY.out.mono ?_
  rintro e w2 ⟨rfl, hb2⟩
  by_cases hq : wrong m [] = 0
  · rw [hq]
    have hs2 := hb2.size
    have d0 := (hb2.cell (p := ⟨w.heap.size, 0, none⟩) zI).trans c0
    have d1 := (hb2.cell (p := ⟨w.heap.size, 1, none⟩) zI).trans c1
    have HB2 := lI hb2
    have HC0 := lI c0
    have HC1 := lI c1
    clear c0 c1 hb2
    go_wp2_with fail
    go_loopw [21] (fun i wr => ∃ q : Nat, i = .int .i64 q ∧ q ≤ us.length ∧ Hid (Below w1.heap.size w1 wr ∧ ∀ k (h : k < us.length), k < q → fitsU m us[k].d = true)) (fun i _ => us.length - (intOf i).toNat)
    case atStart => exact ⟨0, rfl, om, lI ⟨HB2.out, fun k _ h => absurd h om⟩⟩
    case round =>
      obtain ⟨q, rfl, hqn, HQ⟩ := hrel
      have hsr := HQ.out.1.size
      by_cases hlt : q < us.length
      · obtain ⟨b, off, rfl, hbl, hel⟩ := HO.out zO
        have hx := List.getElem_mem hlt
        have hwf := HU.out.wf _ hx
        have hat : At wr b (off + q * 41) (ulist us[q]).toArray.toList := (hel q hlt).below (HB1.out.trans (HQ.out.1.mono HB1.out.size))
        have hvb := HU.out.byt _ hx
        have hvl := HU.out.los _ hx
        have hrg := HU.out.rng _ hx
        have HFA : Hid (fitsU m us[q].d = false → R = (⟨[], []⟩, 2)) := lI (fun hf => by
          rw [HR.out]
          unfold backS
          rw [if_pos hq, if_neg]
          intro h
          have := List.all_eq_true.1 h us[q].d (List.mem_map.2 ⟨_, hx, rfl⟩)
          rw [hf] at this
          cases this)
        have HNX : Hid (fitsU m us[q].d = true → ∀ k (h : k < us.length), k < q + 1 → fitsU m us[k].d = true) := lI (fun hf k h h2 => by
          rcases Nat.lt_or_ge k q with h3 | h3
          · exact HQ.out.2 k h h3
          · obtain rfl : k = q := om
            exact hf)
        obtain ⟨x, hxe⟩ : ∃ x, x = us[q] := ⟨_, rfl⟩
        rw [← hxe] at hwf hat hvb hvl hrg HFA HNX
        have hx41 : (ulist x).toArray.size = 41 := by rw [List.size_toArray, ulist_len hwf.len]
        have hszx : (Try.prog.info? 93).map (·.size) = some (ulist x).toArray.size := by rw [hx41]; kernel_rfl
        have hox : ∀ u ∈ (ulist x).toArray.toList, u.oneCell' = true := ulist_one (Ints.one (l := x.d.bytes) hvb) (by
          obtain ⟨a1, c1, e1, -⟩ := Sl.open (f := llist) hvl (fun _ _ => rfl) om
          rw [e1]; rfl)
        obtain ⟨z, hz41⟩ : ∃ z : Array Value, z = (Value.int .i64 0 :: (hlist hart0 ++ [.int .u32 0, .slice none 0 0, .slice none 0 0])).toArray := ⟨_, rfl⟩
        obtain ⟨w3, hw3⟩ : ∃ w3, w3 = wr.alloc (.cells (ulist x).toArray 93) := ⟨_, rfl⟩
        have hb3 : Below wr.heap.size wr w3 := by rw [hw3]; exact Below.alloc br (Nat.le_refl _) _
        have hat3 : At w3 wr.heap.size 0 (ulist x).toArray.toList := by rw [hw3]; exact at_alloc wr (ulist x) _ _
        have HB3 := lI (HQ.out.1.trans (hb3.mono hsr))
        have e0 := (HB3.out.cell (p := ⟨w.heap.size, 0, none⟩) zI).trans HC0.out
        have e1 := (HB3.out.cell (p := ⟨w.heap.size, 1, none⟩) zI).trans HC1.out
        have i0 : (0 : Int) ≤ (q : Int) := om
        have i1 : (q : Int) < (us.length : Int) := om
        have HW3 := lI hw3
        have hb13 : Below w.heap.size w w3 := HB1.out.trans (HB3.out.mono om)
        have HFT := lI (fits_any (.slice aom m.mem.length capm) (.slice aoh m.harts.length caph) m x w3 (HM.out.below HB3.out) (Sl.below hvl hb13) (Sl.below hvb hb13) hwf hrg wf.harts)
        clear hel hxe hw3 hb3 hz41 hb13 hvb hvl hx
        go_upto_region 6 with (first | (refine wpList_load_at rfl 93 _ rfl b (off + q * 41) rfl (ulist x).toArray _ hat Try.underlying93 rfl hszx ?_) | (refine wpList_store_new rfl 93 _ _ rfl wr _ (ulist x).toArray rfl rfl rfl hszx (by rw [hx41]; rfl) hox ?_))
        rw [← HW3.out]
        simp only [Act.put]
        go_wp2_with (first | (refine wpList_load_at rfl 93 _ rfl wr.heap.size 0 rfl (ulist x).toArray _ hat3 Try.underlying93 rfl hszx ?_))
        refine HFT.out.mono ?_
        rintro e w4 ⟨rfl, hb4⟩
        have HB4 := lI (HB3.out.trans (hb4.mono HB3.out.size))
        clear hat hat3 e0 e1 hb4 hox hszx
        cases hf : fitsU m x.d with
        | true =>
          have HF := lI (HNX.out hf)
          clear hf
          go_wp2_with fail
          go_roundw
          case rel => exact ⟨q + 1, by simp, hlt, lI ⟨HB4.out, HF.out⟩⟩
          case measure => simp [intOf]; omega
        | false =>
          have he := HFA.out hf
          obtain ⟨ht, hld, hpost⟩ := HEND.out w4 2 HB4.out he
          have HP := lI hpost
          clear hpost he hf
          go_wp2_with (first | (refine wpList_store_mid rfl 25 _ _ rfl (w.heap.size + 1) 0 #[.slice none 0 0, .slice none 0 0] rfl rfl ht hsz5 hall ?_))
          refine retM0 (results_c1t zE _ zE hld) rfl ?_
          exact HP.out
      · obtain rfl : q = us.length := om
        have hall2 : (us.map (·.d)).all (fitsU m) = true := by
          rw [List.all_eq_true]
          intro u hu
          obtain ⟨x, hx, rfl⟩ := List.mem_map.1 hu
          obtain ⟨k, hk, rfl⟩ := List.mem_iff_getElem.1 hx
          exact HQ.out.2 k hk hk
        have HALL := lI hall2
        have HRS : Hid (R = if steps < 0 ∨ (us.length : Int) < steps then (⟨[], []⟩, 3) else (backL ((us.map (·.d)).drop (us.length - steps.toNat)) m, 0)) := lI (by
          rw [HR.out]
          unfold backS
          rw [if_pos hq, if_pos hall2, List.length_map])
        have HBR := lI HQ.out.1
        have e0 := (HBR.out.cell (p := ⟨w.heap.size, 0, none⟩) zI).trans HC0.out
        have e1 := (HBR.out.cell (p := ⟨w.heap.size, 1, none⟩) zI).trans HC1.out
        have HQQ := lI hq
        clear hall2 hq
        by_cases hneg : steps < 0
        · have he : R = (⟨[], []⟩, 3) := by rw [HRS.out, if_pos (.inl hneg)]
          obtain ⟨ht, hld, hpost⟩ := HEND.out wr 3 HBR.out he
          have HP := lI hpost
          clear hpost he e0 e1
          go_wp2_with (first | (refine wpList_store_mid rfl 25 _ _ rfl (w.heap.size + 1) 0 #[.slice none 0 0, .slice none 0 0] rfl rfl ht hsz5 hall ?_))
          refine retM0 (results_c1t zE _ zE hld) rfl ?_
          exact HP.out
        · by_cases hbig : (us.length : Int) < steps
          · have he : R = (⟨[], []⟩, 3) := by rw [HRS.out, if_pos (.inr hbig)]
            obtain ⟨ht, hld, hpost⟩ := HEND.out wr 3 HBR.out he
            have HP := lI hpost
            clear hpost he e0 e1
            go_wp2_with (first | (refine wpList_store_mid rfl 25 _ _ rfl (w.heap.size + 1) 0 #[.slice none 0 0, .slice none 0 0] rfl rfl ht hsz5 hall ?_))
            refine retM0 (results_c1t zE _ zE hld) rfl ?_
            exact HP.out
          · have HE0 : Hid (R = (backL ((us.map (·.d)).drop (us.length - steps.toNat)) m, 0)) := lI (by rw [HRS.out, if_neg om])
            obtain ⟨s, rfl⟩ := Int.eq_ofNat_of_zero_le (show 0 ≤ steps by omega)
            rw [Int.toNat_natCast] at HE0
            have hsl : s ≤ us.length := om
            clear HRS hneg hbig
            obtain ⟨p1, p2, p3, p4, p5, p6⟩ := wrong_parts HQQ.out
            have HBG := lI (begin_any (.slice aom m.mem.length capm) (.slice aoh m.harts.length caph) m wf wr (HM.out.below HBR.out) p2 p3 p1)
            clear p6 p4
            go_wp2_with fail
            refine HBG.out.mono ?_
            rintro e w3 ⟨⟨bp, bh, hc, vm, rfl, hbd, hbh, hvm⟩, hb3⟩
            obtain ⟨am, cm, hvme, -⟩ := hbd.bytes.open
            subst hvme
            have q0 := hbd.c0
            have q1 := hbd.c1
            obtain ⟨nb, hnb⟩ : ∃ x, x = w3.heap.size := ⟨_, rfl⟩
            obtain ⟨w4, hw4⟩ : ∃ x, x = w3.alloc (.cells #[.slice am (startM m).mem.length cm, .slice (some ⟨bh, 0, none⟩) (startM m).harts.length hc] 25) := ⟨_, rfl⟩
            have HW4 := lI hw4
            have hb4 : Below w3.heap.size w3 w4 := by rw [hw4]; exact Below.alloc br (Nat.le_refl _) _
            have hnbk : w4.heap[nb]? = some (.cells #[.slice am (startM m).mem.length cm, .slice (some ⟨bh, 0, none⟩) (startM m).harts.length hc] 25 (0, 0)) := by rw [hw4, hnb]; exact heap_alloc_new _ _
            have hs4 : nb + 1 = w4.heap.size := by rw [hw4, hnb]; simp
            clear hw4
            go_upto_region 12 with (fail)
            rw [← HW4.out, ← hnb]
            have HNB := lI hnb
            clear hnb
            have n1 : (0 : Int) ≤ (us.length : Int) - (s : Int) := om
            have n2 : (us.length : Int) - (s : Int) ≤ (us.length : Int) := om
            have n3 : (us.length : Int) - (s : Int) ≤ (cap : Int) := om
            have n4 : (us.length : Int) ≤ (cap : Int) := om
            obtain ⟨ab, hab⟩ : ∃ ab, (if cap = us.length - s then ao else Option.map (fun x => x.add ((us.length - s) * 41)) ao) = ab := ⟨_, rfl⟩
            clear q0 q1
            go_wp2_with fail
            refine (backward_any _ _ _ _).mono ?_
            rintro e w5 ⟨rfl, hw5⟩
            have HW5E := lI hw5
            clear hw5
            go_wp2_with fail
            have hw5 := HW5E.out
            have hnb := HNB.out
            have hs5 : w5.heap.size = w4.heap.size + 1 := by rw [hw5]; simp
            obtain ⟨Bs, hBs⟩ : ∃ x, x = w4.heap.size := ⟨_, rfl⟩
            have hb5 : Below w4.heap.size w4 w5 := by rw [hw5]; exact Below.alloc br (Nat.le_refl _) _
            have hs3 := hb3.size
            have hsw : w.heap.size ≤ wr.heap.size := om
            have hb05 : Below w.heap.size w w5 := (((HB1.out.trans (HBR.out.mono om)).trans (hb3.mono hsw)).trans (hb4.mono om)).trans (hb5.mono om)
            have hbc : w5.cell? ⟨Bs, 0, none⟩ = some (.slice ab (us.drop (us.length - s)).length (cap - (us.length - s))) := by
              rw [List.length_drop, hw5, hBs]
              unfold World.cell?
              rw [heap_alloc_new]
              rfl
            have hxs : ∀ x ∈ us.drop (us.length - s), UOk m w x := fun x hx => by
              have hx2 := List.mem_of_mem_drop hx
              exact UR.ok HU.out hx2 (List.all_eq_true.1 HALL.out _ (List.mem_map.2 ⟨x, hx2, rfl⟩))
            have hatd : us.drop (us.length - s) ≠ [] → ∃ b off, ab = some ⟨b, off, none⟩ ∧ b < w.heap.size ∧ ∀ k (h : k < (us.drop (us.length - s)).length), At w5 b (off + k * 41) (ulist (us.drop (us.length - s))[k]) := fun hne => by
              have hpos : 0 < s := by
                rcases Nat.eq_zero_or_pos s with e | e
                · rw [e, Nat.sub_zero, List.drop_length] at hne; exact absurd rfl hne
                · exact e
              obtain ⟨b, off, e, hbl, hel⟩ := HO.out (by intro e; rw [e] at hne; simp at hne)
              refine ⟨b, off + (us.length - s) * 41, ?_, hbl, fun k hk => ?_⟩
              · rw [← hab, if_neg om, e]
                simp [Addr.add]
              · rw [List.getElem_drop]
                have := (hel (us.length - s + k) (by rw [List.length_drop] at hk; omega)).below hb05
                rw [show off + (us.length - s) * 41 + k * 41 = off + (us.length - s + k) * 41 by rw [Nat.add_mul]; omega]
                exact this
            have hvm5 : ∀ q, (Value.slice am (startM m).mem.length cm).ownBlock = some q → wr.heap.size ≤ q := hvm
            have hbd5 := (hbd.below hb4).below hb5
            have hbi0 : BI w.heap.size nb bh hc Bs (.slice am (startM m).mem.length cm) w w5 m m := ⟨(cell_block (hb5.block nb om) _).trans (by unfold World.cell?; rw [hnbk]; rfl), (cell_block (hb5.block nb om) _).trans (by unfold World.cell?; rw [hnbk]; rfl), hbd5.harts, hbd5.hfz, hbd5.bytes, fun hne q e => by
                have h1 := hbd5.mlt q e
                have h2 := hvm5 q e
                have h3 := hbd.b1
                have h4 := hbd.lt
                obtain ⟨a1, c1, e1, _, _, _, ho1⟩ := hbd.bytes.open
                obtain ⟨b1, o1, e2, _, hx1⟩ := ho1 hne
                injection e1 with e3 _ _
                subst e3 e2
                obtain rfl : b1 = q := by cases e; rfl
                exact ⟨⟨om, om, h1.2, om⟩, (hbd5.mfz b1 o1 _ _ rfl).2⟩, ⟨om, om, by have := hbd.hlt; omega, by have := hbd.hlt; omega, om⟩, hbd5.hlt, ⟨rfl, p2, p3⟩, ⟨rfl, p1⟩, wf, hbd5.hcap, hb05⟩
            have HBI0 := lI hbi0
            have HZ5 : Hid (w5.heap[w.heap.size + 1]? = some (.cells #[.slice none 0 0, .slice none 0 0] 25 (0, 0))) := lI ((hb5.block _ om).trans ((hb4.block _ om).trans ((hb3.block _ om).trans ((HBR.out.block _ om).trans HZ.out))))
            have HBC := lI hbc
            have HXS := lI hxs
            have HATD := lI hatd
            have HW5 : Hid (Bs < w5.heap.size ∧ w.heap.size ≤ w5.heap.size ∧ w.heap.size + 1 < w5.heap.size ∧ nb < w5.heap.size ∧ bh < w5.heap.size ∧ w.heap.size + 1 < bh ∧ w.heap.size + 1 < nb ∧ ∀ q, (Value.slice am (startM m).mem.length cm).ownBlock = some q → q < w5.heap.size ∧ w.heap.size + 1 < q ∧ q ≠ Bs) := lI ⟨om, om, om, om, by have := hbd.hlt; omega, om, om, fun q e => by have := hvm5 q e; have := (hbd.mlt q e).1; have := hbd.lt; omega⟩
            rw [← hBs]
            clear hab hw5 HW5E hBs hb5 hb05 hbc hxs hatd hvm5 hbd5 hbi0 hnbk hb4 hb3 hbd hvm hs4 hs5 hs3 hsw n1 n2 n3 n4 hnb hbh HBG HW4 e0 e1
            refine (wpIn_wide (n := 6)).1 ?_
            refine rangeFunc_boxed (F := Fence.wide) rfl om (gf := 59) (lb := #[.pointer (some ⟨Bs, 0, none⟩)]) rfl trivial (enters_of Try.func59 kr rfl)
              (back_stops 5 om Bs w.heap.size ab (cap - (us.length - s)) m w (us.drop (us.length - s)) HXS.out (by rw [List.length_drop]; omega) w5 HW5.out.1 HW5.out.2.1 HBC.out HATD.out)
              ukp_t (ukp_b HW5.out.2.1) br (fun _ => rfl)
              (fun (pre : List (UA m w)) W => BI w.heap.size nb bh hc Bs (.slice am (startM m).mem.length cm) w W m (backF pre) ∧ w5.heap.size ≤ W.heap.size ∧ W.heap[w.heap.size + 1]? = some (.cells #[.slice none 0 0, .slice none 0 0] 25 (0, 0)))
              (fun pre A C row h hg hr => ⟨h.1.own HW5.out.2.1 hg hr, Nat.le_trans h.2.1 hg.size, (grownBy_keeps_cells hg (fun r e => (hr r e).2) h.2.2 rfl).trans h.2.2⟩)
              ⟨HBI0.out, Nat.le_refl _, HZ5.out⟩ 12 93 (fun x => (ulist x.1.2).toArray) (fun x => by rw [List.size_toArray, ulist_len x.2.1.len]; decide)
              (fun pre W o h => ⟨Below.alloc br (by have := h.2.1; have := HW5.out.2.1; omega) _, fun v e => (World.cell?_alloc_lt _ _ _ (lt_of_cell e)).trans e⟩)
              (fun pre W h => h.2.1) ?assign ?body ?done
            case assign =>
              intro l x W K hK
              have hx41 : (ulist x.1.2).toArray.size = 41 := by rw [List.size_toArray, ulist_len x.2.1.len]
              have hszx : (Try.prog.info? 93).map (·.size) = some (ulist x.1.2).toArray.size := by rw [hx41]; kernel_rfl
              have hox : ∀ u ∈ (ulist x.1.2).toArray.toList, u.oneCell' = true := ulist_one (Ints.one (l := x.1.2.d.bytes) x.2.2.1) (by
                obtain ⟨a1, c1, e1, -⟩ := Sl.open (f := llist) x.2.2.2.1 (fun _ _ => rfl) om
                rw [e1]; rfl)
              simp only [uenc, List.zip_toArray, List.zip_cons_cons, List.zip_nil_right, List.foldl_toArray, List.foldl_cons, List.foldl_nil, List.setIfInBounds_toArray, List.set_cons_succ, List.set_cons_zero] at hK ⊢
              gi_wp2_with (first | (refine wpListIn_store_new rfl 93 _ _ rfl W _ (ulist x.1.2).toArray rfl rfl rfl hszx (by rw [hx41]; rfl) hox ?_))
              exact hK
            case body =>
              intro l pre x Bx W hBx hblk hI hlt
              simp only [uenc, List.zip_toArray, List.zip_cons_cons, List.zip_nil_right, List.foldl_toArray, List.foldl_cons, List.foldl_nil, List.setIfInBounds_toArray, List.set_cons_succ, List.set_cons_zero]
              obtain ⟨hBI, hsW, hzb⟩ := hI
              have HZB := lI hzb
              clear hzb
              have hx := x.2
              have HNXT : Hid (backF (pre ++ [x]) = backOne x.1.2.d (backF pre)) := lI (by unfold backF; rw [List.foldl_append]; rfl)
              obtain ⟨xu, hxu⟩ : ∃ y, y = x.1.2 := ⟨_, rfl⟩
              obtain ⟨qi, hqi⟩ : ∃ y, y = x.1.1 := ⟨_, rfl⟩
              rw [← hxu] at hx HNXT hblk
              rw [← hxu, ← hqi]
              clear hxu hqi
              obtain ⟨hwf, hvb, hvl, hrg, hfit⟩ := hx
              obtain ⟨mc, hmc⟩ : ∃ mc, mc = backF pre := ⟨_, rfl⟩
              rw [← hmc] at hBI HNXT
              clear hmc
              unfold fitsU inH at hfit
              simp only [Bool.and_eq_true, List.all_eq_true, decide_eq_true_eq] at hfit
              obtain ⟨hlo, ⟨⟨hk0, hk1⟩, -⟩, hfb⟩ := hfit
              obtain ⟨k, hk⟩ := Int.eq_ofNat_of_zero_le hk0
              rw [hk] at hk1
              have hub := ulist_at hwf.len (show At W Bx 0 (ulist xu) from fun j hj => by
                simp only [World.cell?, hblk, Nat.zero_add, List.getElem?_toArray]
                exact List.getElem?_eq_getElem hj)
              simp only [Nat.zero_add] at hub
              obtain ⟨x0, x1, x38, x39, x40⟩ := hub
              rw [hk] at x0
              have hl1 := hBI.len1.1
              have y1 := hBI.c1
              have y0 := hBI.c0
              have hkm : k < mc.harts.length := om
              obtain ⟨HB1', hth⟩ := hBI.hart (k := k) hwf hkm
              have hszh : (Try.prog.info? 67).map (·.size) = some (hcells xu.d.was).size := by rw [hcells_size hwf]; kernel_rfl
              have honeh : (hcells xu.d.was).all (·.oneCell') = true := Array.all_eq_true_iff_forall_mem.2 (fun v hv => hlist_one xu.d.was v (by simpa using hv))
              have i0 : (0 : Int) ≤ (k : Int) := om
              have i1 : (k : Int) < (mc.harts.length : Int) := om
              have x1' : At W Bx 1 (hcells xu.d.was).toList := by simpa [hcells] using x1
              refine wpIn_block ?_
              refine wpIn_seq_k (fun K hK => ?_)
              refine wpIn_region_lit_of (fun ⟨_, _, h⟩ => h) (hd_of zE) ?_
              go_wp2_with (first | (refine wpList_load_at rfl 67 _ rfl Bx 1 rfl (hcells xu.d.was) _ x1' Try.underlying67 rfl hszh ?_) | (refine wpList_store_mid rfl 67 _ _ rfl bh (k * 37) (hcells xu.d.was) rfl rfl hth hszh honeh ?_))
              have HBI1 := lI HB1'
              obtain ⟨g1, g2, g3, g4, g5⟩ := hBI.geo
              obtain ⟨W1, hW1⟩ : ∃ x, x = W.setCells bh (k * 37) (hcells xu.d.was).toList := ⟨_, rfl⟩
              have hr1 : Below w.heap.size W W1 ∧ ∀ q, q ≠ bh → W1.heap[q]? = W.heap[q]? := by rw [hW1]; exact ⟨below_setCells g1 _ _ _ br, fun q hq => heap_setCells hq _ _ _⟩
              have hz1 : W1.heap.size = W.heap.size := by rw [hW1, size_setCells]
              rw [← hW1] at HBI1 ⊢
              have HR1 := lI hr1
              have hbxbh : Bx ≠ bh := by have := HW5.out.2.2.2.2.1; omega
              have hW5' := HW5.out
              have u38 := (cell_block (hr1.2 Bx hbxbh) 38).trans x38
              have u39 := (cell_block (hr1.2 Bx hbxbh) 39).trans x39
              have HU40 := lI ((cell_block (hr1.2 Bx hbxbh) 40).trans x40)
              have HLB : Hid (W1.heap[Bx]? = some (.cells (ulist xu).toArray 93 (0, 0))) := lI ((hr1.2 Bx hbxbh).trans hblk)
              have v0 := HBI1.out.c0
              obtain ⟨f, hf⟩ : ∃ f, f = xu.d.frm := ⟨_, rfl⟩
              obtain ⟨bs, hbs⟩ : ∃ f, f = xu.d.bytes := ⟨_, rfl⟩
              rw [← hf] at u38 hfb
              rw [← hbs] at hvb hfb
              have hrf := hrg.2.1
              have hrb := hrg.2.2.1
              rw [← hf] at hrf
              rw [← hbs] at hrb
              obtain ⟨ml, hml⟩ : ∃ x : Nat, x = (startM m).mem.length := ⟨_, rfl⟩
              have hml2 : ml = m.mem.length := hml
              rw [← hml2] at hfb
              obtain ⟨ab1, cb1, hvbe, hcb1, hcb2, -, hbo⟩ := Ints.open (l := bs) hvb
              have hmem1 : ({ mc with harts := mc.harts.set k xu.d.was } : Mach).mem.length = ml := by rw [hml2]; exact hBI.len2.1
              obtain ⟨am', cm', hvm', hcm1, hcm2, -, hmo⟩ := HBI1.out.bytes.open
              injection hvm' with e1 e2 e3
              subst e1 e3
              clear e2
              rw [hmem1] at hcm1
              rw [← hml] at v0
              obtain ⟨dv, hdv⟩ : ∃ d : Value, d = .slice (if cm = f.toNat then am else Option.map (fun x => x.add f.toNat) am) (ml - f.toNat) (cm - f.toNat) := ⟨_, rfl⟩
              have hinf : (Try.prog.info? 5).map (·.size) = some 1 := by kernel_rfl
              have f0 : 0 ≤ f := hrf.1
              have hcopy : ∃ (nv : Value) (W2 : World), (Builtin.copy_ #[22, 22] 3 #[dv, xu.vb]).run Try.prog W1.drew = .ok nv W2 ∧ BI w.heap.size nb bh hc Bs (.slice am (startM m).mem.length cm) w W2 m ⟨patch mc.mem f bs, mc.harts.set k xu.d.was⟩ ∧ W2.heap.size = W1.heap.size ∧ Below w.heap.size W1 W2 ∧ ∀ q, (Value.slice am (startM m).mem.length cm).ownBlock ≠ some q → W2.heap[q]? = W1.heap[q]? := by
                have hbd1 : BI w.heap.size nb bh hc Bs (.slice am (startM m).mem.length cm) w W1.drew m { mc with harts := mc.harts.set k xu.d.was } := HBI1.out.keep (fun _ _ => rfl) (Nat.le_refl _) HBI1.out.bel.drew
                by_cases hne : bs = []
                · refine ⟨goInt 0, W1.drew, ?_, ?_, rfl, Below.drew br, fun _ _ => rfl⟩
                  · rw [hdv, hvbe]
                    exact run_copy_none _ _ _ _ 5 _ _ _ _ _ _ Try.underlying22 hinf (by rw [hne]; simp)
                  · have e : patch mc.mem f bs = mc.mem := by rw [hne]; unfold patch; simp
                    rw [e]
                    exact hbd1
                · have hbl : 0 < bs.length := List.length_pos_iff.2 hne
                  have hmne : ({ mc with harts := mc.harts.set k xu.d.was } : Mach).mem ≠ [] := by
                    intro e
                    rw [e] at hmem1
                    simp at hmem1
                    have := hrf.1
                    omega
                  obtain ⟨mb, off, rfl, hmbl, hmx⟩ := hmo hmne
                  obtain ⟨b2, off2, rfl, hb2l, hb2x⟩ := hbo hne
                  have hbd2 : BI w.heap.size nb bh hc Bs (.slice (some ⟨mb, off, none⟩) ({ mc with harts := mc.harts.set k xu.d.was } : Mach).mem.length cm) w W1.drew m { mc with harts := mc.harts.set k xu.d.was } := by rw [hmem1, hml]; exact hbd1
                  obtain ⟨k1, k2, k3⟩ := hbd2.copy hrf.1 (by rw [hmem1]; exact hfb) hrb hne
                  rw [hmem1, hml] at k1
                  have hsrc : ∀ j u, (bs.map (Value.int .u8))[j]? = some u → W1.drew.cell? ((⟨b2, off2, none⟩ : Addr).add j) = some u := fun j u hu => by
                    have hj : j < bs.length := by have := (List.getElem?_eq_some_iff.1 hu).1; simpa using this
                    have e3 : u = .int .u8 bs[j] := by
                      rw [List.getElem?_map, List.getElem?_eq_getElem hj] at hu
                      exact (Option.some.inj hu).symm
                    rw [e3, addr_add']
                    have hbw : Below w.heap.size w W1 := hBI.bel.trans HR1.out.1
                    have h9 := hb2x j hj
                    rw [List.getD_eq_getElem?_getD, List.getElem?_eq_getElem hj] at h9
                    exact (hbw.cell (p := ⟨b2, off2 + j, none⟩) hb2l).trans h9
                  refine ⟨goInt (bs.map (Value.int .u8)).length, _, ?_, k1, size_setCells _ _ _ _, below_setCells (by have := hW5'.2.2.2.2.2.2.2 mb rfl; omega) _ _ _ (Below.drew br), fun q hq => heap_setCells (fun e => hq zX) _ _ _⟩
                  rw [hdv, hvbe, if_neg om]
                  show (Builtin.copy_ _ _ #[.slice (some (Addr.add ⟨mb, off, none⟩ f.toNat)) _ _, _]).run _ _ = _
                  rw [addr_add']
                  refine run_copy_cells _ _ _ _ 5 mb (off + f.toNat) _ _ _ _ _ _ Try.underlying22 hinf ?_ hsrc (fun j hj => k2 j (by simpa using hj)) (fun j _ => k3 _) yG
                  rw [List.length_map]
                  have e1 : (Nat.min bs.length (ml - f.toNat)) = min bs.length (ml - f.toNat) := rfl
                  rw [e1]
                  omega
              obtain ⟨nv, W2, hcr, hBI2, hz2, hr2, hk2⟩ := hcopy
              have HDV := lI hdv
              have HCR := lI hcr
              have HBI2 := lI hBI2
              have HK2 := lI (And.intro hr2 hk2)
              have f1 : 0 ≤ f := hrf.1
              have f2 : f ≤ (ml : Int) := om
              have f3 : f ≤ (cm : Int) := om
              have f4 : (ml : Int) ≤ (cm : Int) := om
              have f5 : f % 4294967296 = f := by have := hrf.2; omega
              rw [hvbe] at u39 HCR
              clear hdv hcr hBI2 hr2 hk2 hvbe hbo hmo hvb x0 x1 x38 x39 x40 y0 y1 hth hszh honeh x1' HB1' hr1 hcb1 hcb2
              have HFB := lI (And.intro hf hbs)
              clear hf hbs
              have HLO := lI hlo
              have HRG := lI hrg
              have HML := lI hml
              obtain ⟨al, cl, hvle, hcl1, hcl2, -, hol⟩ := Sl.open (f := llist) hvl (fun _ _ => rfl) om
              have HLB : Hid (((xu.d.lost.length : Nat) : Int) ≤ 9223372036854775807) := lI (by unfold maxLen at hcl2; omega)
              clear hcl1 hcl2
              have HOL := lI hol
              have HVLE := lI hvle
              have hbs2 : (Value.slice am (startM m).mem.length cm).ownBlock ≠ some Bs := fun e => (hW5'.2.2.2.2.2.2.2 Bs e).2.2 rfl
              have HUK2 : Hid (UKp w.heap.size Bs W W2 ∧ ∀ j, j < W.heap.size → (w5.heap.size ≤ j ∨ j = w.heap.size + 1) → W2.heap[j]? = W.heap[j]?) := lI ⟨⟨HR1.out.1.trans HK2.out.1, fun v e => (cell_block (HK2.out.2 Bs hbs2) 0).trans ((cell_block (HR1.out.2 Bs g4) 0).trans e)⟩, fun j h1 h2 => (HK2.out.2 j (fun e => by have := hW5'.2.2.2.2.2.2.2 j e; omega)).trans (HR1.out.2 j (by have := hW5'.2.2.2.2.1; have := hW5'.2.2.2.2.2.1; omega))⟩
              clear hol hvle hbs2
              have HBIW := lI hBI
              have hbx2 : (Value.slice am (startM m).mem.length cm).ownBlock ≠ some Bx := fun e => by have := (hW5'.2.2.2.2.2.2.2 Bx e).1; omega
              have HBX2 := lI hbx2
              have HZZ : Hid (W1.heap.size = W.heap.size ∧ W2.heap.size = W1.heap.size ∧ w5.heap.size ≤ W.heap.size ∧ w5.heap.size ≤ Bx ∧ Bx < W.heap.size ∧ bh < w5.heap.size) := lI ⟨hz1, hz2, hsW, hBx, (Array.getElem?_eq_some_iff.1 hblk).1, hW5'.2.2.2.2.1⟩
              have HKK := lI (And.intro hk (And.intro hl1 (And.intro hml2 hmem1)))
              clear hlo hrg hml hml2 hmem1 hBI hbx2 hz1 hz2 hk hl1 hW5' hsW hBx hblk hfb hrb hwf hvl hinf hkm i0 i1 g1 g2 g3 g4 g5 hk0 hk1 hbxbh hlt
              refine wpIn_seq_k (fun K hK => ?_)
              refine wpIn_region_held_drew (S := fun W' => W'.cell? ⟨nb, 0, none⟩ = some (.slice am ml cm) ∧ W'.cell? ⟨Bx, 38, none⟩ = some (.int .u32 f) ∧ W'.cell? ⟨Bx, 39, none⟩ = some (.slice ab1 bs.length cb1)) kr (fun ⟨_, _, h⟩ => h) (hd_of zE) ⟨v0, u38, u39⟩ (fun hHeld => ?_)
              refine tak 0 (.pointer (some ⟨nb, 0, none⟩)) ?_
              try simp only [List.getElem_toArray, List.getElem_cons_zero, List.getElem_cons_succ, Act.put, List.setIfInBounds_toArray, List.set_cons_zero, List.set_cons_succ]
              refine tak 1 (.slice am ml cm) ?_
              try simp only [List.getElem_toArray, List.getElem_cons_zero, List.getElem_cons_succ, Act.put, List.setIfInBounds_toArray, List.set_cons_zero, List.set_cons_succ]
              refine tak 2 (.pointer (some ⟨Bx, 38, none⟩)) ?_
              try simp only [List.getElem_toArray, List.getElem_cons_zero, List.getElem_cons_succ, Act.put, List.setIfInBounds_toArray, List.set_cons_zero, List.set_cons_succ]
              refine tak 3 (.int .u32 f) ?_
              try simp only [List.getElem_toArray, List.getElem_cons_zero, List.getElem_cons_succ, Act.put, List.setIfInBounds_toArray, List.set_cons_zero, List.set_cons_succ]
              refine tak 4 (.slice (if cm = f.toNat then am else Option.map (fun x => x.add f.toNat) am) (ml - f.toNat) (cm - f.toNat)) ?_
              try simp only [List.getElem_toArray, List.getElem_cons_zero, List.getElem_cons_succ, Act.put, List.setIfInBounds_toArray, List.set_cons_zero, List.set_cons_succ]
              refine tak 5 (.pointer (some ⟨Bx, 39, none⟩)) ?_
              try simp only [List.getElem_toArray, List.getElem_cons_zero, List.getElem_cons_succ, Act.put, List.setIfInBounds_toArray, List.set_cons_zero, List.set_cons_succ]
              refine tak 6 (.slice ab1 bs.length cb1) ?_
              try simp only [List.getElem_toArray, List.getElem_cons_zero, List.getElem_cons_succ, Act.put, List.setIfInBounds_toArray, List.set_cons_zero, List.set_cons_succ]
              refine wpAnyH_ready (rs := [7]) kr zH ?_
              refine AllReadyH.cons rfl (fun K' hK' => ?_) AllReadyH.nil
              have HCR2 := HCR.out
              rw [HDV.out] at HCR2
              refine step_copy_runI zE _ _ _ _ zE _ _ zE zE HCR2 ?_
              have w38 := (cell_block (HK2.out.2 Bx HBX2.out) 38).trans u38
              have w39 := (cell_block (HK2.out.2 Bx HBX2.out) 39).trans u39
              have w0 := HBI2.out.c0
              rw [← HML.out] at w0
              refine hK'.out _ _ ⟨w0, w38, w39⟩ (fun hHeld2 => ?_)
              clear hK' K'
              refine wpAnyH_done kr ?_ _
              show K _ _
              refine hK _ _ ?_
              rw [← HDV.out]
              clear hK K hHeld hHeld2 w38 w39 w0 u38 u39 v0
              have v40 := (cell_block (HK2.out.2 Bx HBX2.out) 40).trans HU40.out
              rw [HVLE.out] at v40
              obtain ⟨ll, hll⟩ : ∃ x : Nat, x = xu.d.lost.length := ⟨_, rfl⟩
              rw [← hll] at v40
              have HLL := lI hll
              clear hll
              refine wpIn_seq_k (fun K hK => ?_)
              refine wpIn_region_lit_of (fun ⟨_, _, h⟩ => h) (hd_of zE) ?_
              go_wp2_with fail
              clear v40
              refine wpIn_block ?_
              gi_loopw [73] (fun i wl => ∃ q : Nat, i = .int .i64 q ∧ q ≤ ll ∧ Hid (BI w.heap.size nb bh hc Bs (.slice am (startM m).mem.length cm) w wl m ⟨patch mc.mem f bs, resets (xu.d.lost.take q) (mc.harts.set k xu.d.was)⟩ ∧ UKp w.heap.size Bs W wl ∧ (∀ j, j < W.heap.size → (w5.heap.size ≤ j ∨ j = w.heap.size + 1) → wl.heap[j]? = W.heap[j]?) ∧ W.heap.size ≤ wl.heap.size)) (fun i _ => ll - (intOf i).toNat)
              case atStart => exact ⟨0, rfl, Nat.zero_le _, lI ⟨HBI2.out, HUK2.out.1, HUK2.out.2, by have := HZZ.out; omega⟩⟩
              case round =>
                obtain ⟨q, rfl, hq, HQ⟩ := hrel
                by_cases hlq : q < ll
                · refine wpIn_seq_k (fun K1 hK1 => ?_)
                  refine wpIn_region_lit_of (fun ⟨_, _, h⟩ => h) (hd_of zE) ?_
                  go_wp2_with fail
                  refine wpIn_seq_k (fun K2 hK2 => ?_)
                  refine wpIn_cond_true zE ?_
                  refine wpIn_skip ?_
                  refine hK2 _ _ ?_
                  clear hK2 K2
                  have hlq2 : q < xu.d.lost.length := by have := HLL.out; omega
                  obtain ⟨b, off, rfl, hbl, hel⟩ := HOL.out (by intro e; rw [e] at hlq2; simp at hlq2)
                  have hat := (hel q hlq2).below HQ.out.1.bel
                  have d0 := hat.get (j := 0) (v := .int .i64 xu.d.lost[q].1) rfl
                  have d1 := hat.get (j := 1) (v := .int .u32 xu.d.lost[q].2) rfl
                  simp only [Nat.add_zero] at d0
                  have hpl := HLO.out _ (List.getElem_mem hlq2)
                  have hpr := HRG.out.2.2.2 _ (List.getElem_mem hlq2)
                  have HTK : Hid (xu.d.lost.take (q + 1) = xu.d.lost.take q ++ [xu.d.lost[q]]) := lI (List.take_succ_eq_append_getElem hlq2)
                  obtain ⟨p, hpe⟩ : ∃ p, p = xu.d.lost[q] := ⟨_, rfl⟩
                  rw [← hpe] at d0 d1 hpl hpr HTK
                  clear hpe hat hel hlq2
                  obtain ⟨pj, pa⟩ := p
                  simp only at d0 d1 hpl hpr
                  obtain ⟨j, rfl⟩ := Int.eq_ofNat_of_zero_le hpl.1
                  obtain ⟨rs, hrs⟩ : ∃ x, x = resets (xu.d.lost.take q) (mc.harts.set k xu.d.was) := ⟨_, rfl⟩
                  have HBIQ : Hid (BI w.heap.size nb bh hc Bs (.slice am (startM m).mem.length cm) w wr m ⟨patch mc.mem f bs, rs⟩) := lI (by rw [hrs]; exact HQ.out.1)
                  have HRS := lI hrs
                  have hlen1 : rs.length = m.harts.length := HBIQ.out.len1.1
                  have hj : j < rs.length := om
                  obtain ⟨wl, hwl⟩ : ∃ x, x = wr.alloc (.cells #[.int .i64 j, .int .u32 pa] 95) := ⟨_, rfl⟩
                  have hbwl : Below wr.heap.size wr wl := by rw [hwl]; exact Below.alloc br (Nat.le_refl _) _
                  have hzl : wr.heap.size < wl.heap.size := by rw [hwl]; simp
                  have e0 : wl.cell? ⟨wr.heap.size, 0, none⟩ = some (.int .i64 j) := by rw [hwl]; go_cell
                  have e1 : wl.cell? ⟨wr.heap.size, 1, none⟩ = some (.int .u32 pa) := by rw [hwl]; go_cell
                  have hbhl := HBIQ.out.hlt
                  have HBIL : Hid (BI w.heap.size nb bh hc Bs (.slice am (startM m).mem.length cm) w wl m ⟨patch mc.mem f bs, rs⟩) := lI (HBIQ.out.keep (fun g hg => hbwl.block g (by
                    rcases hg with rfl | rfl | ⟨h1, h2⟩
                    · have := HW5.out.2.2.2.1; have := HZZ.out; have := HQ.out.2.2.2; omega
                    · exact hbhl
                    · exact ints_lt HBIQ.out.bytes h1 h2)) (Nat.le_of_lt hzl) (HBIQ.out.bel.trans (hbwl.mono (by have := HBIQ.out.geo; omega))))
                  have v1 := HBIL.out.c1
                  have hat37 := at_hart HBIL.out.harts (fun y hy => hlist_length (HBIL.out.wf.harts y hy)) hj
                  have wfj := HBIL.out.wf.harts _ (List.getElem_mem hj)
                  have c33 := hat37.get (hlist_held wfj)
                  have c34 := hat37.get (hlist_heldAt wfj)
                  have q33 := HBIL.out.hfz (j * 37 + 33)
                  have q34 := HBIL.out.hfz (j * 37 + 34)
                  have i0 : (0 : Int) ≤ (q : Int) := om
                  have i1 : (q : Int) < (ll : Int) := om
                  have j0 : (0 : Int) ≤ (j : Int) := om
                  have j1 : (j : Int) < (rs.length : Int) := om
                  have HWL := lI hwl
                  have HBWL := lI hbwl
                  have hne1 : bh ≠ wr.heap.size := om
                  have hne2 : nb ≠ bh := HBIL.out.geo.2.2.1
                  generalize rs[j].held = oh at c33
                  generalize rs[j].heldAt = oa at c34
                  have HC34 := lI c34
                  have HQ34 := lI q34
                  have HPR := lI hpr.2
                  have HJ := lI hj
                  clear hwl hbwl hat37 wfj hpl hpr hlen1 hj hrs
                  refine wpIn_seq_k (fun K3 hK3 => ?_)
                  refine wpIn_block ?_
                  refine wpIn_seq_k (fun K4 hK4 => ?_)
                  refine wpIn_region_lit_of (fun ⟨_, _, h⟩ => h) (hd_of zE) ?_
                  go_wp2_with fail
                  rw [← HWL.out]
                  clear d0 d1
                  refine wpIn_region_held_drew (S := fun W' => W'.cell? ⟨nb, 1, none⟩ = some (.slice (some ⟨bh, 0, none⟩) rs.length hc) ∧ W'.cell? ⟨wr.heap.size, 0, none⟩ = some (.int .i64 j) ∧ W'.cell? ⟨wr.heap.size, 1, none⟩ = some (.int .u32 pa)) kr (fun ⟨_, _, h⟩ => h) (hd_of zE) ⟨v1, e0, e1⟩ (fun hHeld => ?_)
                  refine tak 0 (.pointer (some ⟨nb, 1, none⟩)) ?_
                  try simp only [List.getElem_toArray, List.getElem_cons_zero, List.getElem_cons_succ, Act.put, List.setIfInBounds_toArray, List.set_cons_zero, List.set_cons_succ]
                  refine tak 1 (.slice (some ⟨bh, 0, none⟩) rs.length hc) ?_
                  try simp only [List.getElem_toArray, List.getElem_cons_zero, List.getElem_cons_succ, Act.put, List.setIfInBounds_toArray, List.set_cons_zero, List.set_cons_succ]
                  refine tak 2 (.pointer (some ⟨wr.heap.size, 0, none⟩)) ?_
                  try simp only [List.getElem_toArray, List.getElem_cons_zero, List.getElem_cons_succ, Act.put, List.setIfInBounds_toArray, List.set_cons_zero, List.set_cons_succ]
                  refine tak 3 (.int .i64 j) ?_
                  try simp only [List.getElem_toArray, List.getElem_cons_zero, List.getElem_cons_succ, Act.put, List.setIfInBounds_toArray, List.set_cons_zero, List.set_cons_succ]
                  refine tak 4 (.pointer (some ⟨nb, 1, none⟩)) ?_
                  try simp only [List.getElem_toArray, List.getElem_cons_zero, List.getElem_cons_succ, Act.put, List.setIfInBounds_toArray, List.set_cons_zero, List.set_cons_succ]
                  refine tak 5 (.slice (some ⟨bh, 0, none⟩) rs.length hc) ?_
                  try simp only [List.getElem_toArray, List.getElem_cons_zero, List.getElem_cons_succ, Act.put, List.setIfInBounds_toArray, List.set_cons_zero, List.set_cons_succ]
                  refine tak 6 (.pointer (some ⟨wr.heap.size, 0, none⟩)) ?_
                  try simp only [List.getElem_toArray, List.getElem_cons_zero, List.getElem_cons_succ, Act.put, List.setIfInBounds_toArray, List.set_cons_zero, List.set_cons_succ]
                  refine tak 7 (.int .i64 j) ?_
                  try simp only [List.getElem_toArray, List.getElem_cons_zero, List.getElem_cons_succ, Act.put, List.setIfInBounds_toArray, List.set_cons_zero, List.set_cons_succ]
                  refine tak 8 (.pointer (some ⟨wr.heap.size, 1, none⟩)) ?_
                  try simp only [List.getElem_toArray, List.getElem_cons_zero, List.getElem_cons_succ, Act.put, List.setIfInBounds_toArray, List.set_cons_zero, List.set_cons_succ]
                  refine tak 9 (.int .u32 pa) ?_
                  try simp only [List.getElem_toArray, List.getElem_cons_zero, List.getElem_cons_succ, Act.put, List.setIfInBounds_toArray, List.set_cons_zero, List.set_cons_succ]
                  refine tak 10 (.pointer (some ⟨bh, j * 37, none⟩)) ?_
                  try simp only [List.getElem_toArray, List.getElem_cons_zero, List.getElem_cons_succ, Act.put, List.setIfInBounds_toArray, List.set_cons_zero, List.set_cons_succ]
                  refine tak 11 (.pointer (some ⟨bh, j * 37 + 33, none⟩)) ?_
                  try simp only [List.getElem_toArray, List.getElem_cons_zero, List.getElem_cons_succ, Act.put, List.setIfInBounds_toArray, List.set_cons_zero, List.set_cons_succ]
                  refine wpAnyH_ready (rs := [12]) kr zH ?_
                  refine AllReadyH.cons rfl (fun K' hK' => ?_) AllReadyH.nil
                  go_simp
                  have s1 : ∀ (o : Nat) (u : Value), (wl.drew.setCell ⟨bh, j * 37 + 33, none⟩ (.bool true)).cell? ⟨nb, o, none⟩ = wl.cell? ⟨nb, o, none⟩ := fun o _ => World.cell?_setCell_other _ _ _ _ yP
                  have s2 : ∀ (o : Nat) (u : Value), (wl.drew.setCell ⟨bh, j * 37 + 33, none⟩ (.bool true)).cell? ⟨wr.heap.size, o, none⟩ = wl.cell? ⟨wr.heap.size, o, none⟩ := fun o _ => World.cell?_setCell_other _ _ _ _ yP
                  refine hK'.out _ _ ⟨(s1 1 undef).trans v1, (s2 0 undef).trans e0, (s2 1 undef).trans e1⟩ (fun hHeld2 => ?_)
                  clear hK' K' c33 q33
                  refine tak 13 (.pointer (some ⟨bh, j * 37, none⟩)) ?_
                  try simp only [List.getElem_toArray, List.getElem_cons_zero, List.getElem_cons_succ, Act.put, List.setIfInBounds_toArray, List.set_cons_zero, List.set_cons_succ]
                  refine tak 14 (.pointer (some ⟨bh, j * 37 + 34, none⟩)) ?_
                  try simp only [List.getElem_toArray, List.getElem_cons_zero, List.getElem_cons_succ, Act.put, List.setIfInBounds_toArray, List.set_cons_zero, List.set_cons_succ]
                  refine wpAnyH_ready (rs := [15]) kr zH ?_
                  refine AllReadyH.cons rfl (fun K' hK' => ?_) AllReadyH.nil
                  have d34 : (wl.drew.setCell ⟨bh, j * 37 + 33, none⟩ (.bool true)).cell? ⟨bh, j * 37 + 34, none⟩ = some (.int .u32 oa) := (World.cell?_setCell_other _ _ _ _ zF).trans HC34.out
                  have dq34 : (wl.drew.setCell ⟨bh, j * 37 + 33, none⟩ (.bool true)).frozen? ⟨bh, j * 37 + 34, none⟩ = false := (World.frozen?_setCell _ _ _ _).trans HQ34.out
                  go_simp
                  have t1 : ∀ (g o : Nat), g ≠ bh → ((wl.drew.setCell ⟨bh, j * 37 + 33, none⟩ (.bool true)).setCell ⟨bh, j * 37 + 34, none⟩ (.int .u32 pa)).cell? ⟨g, o, none⟩ = wl.cell? ⟨g, o, none⟩ := fun g o hg => (World.cell?_setCell_other _ _ _ _ yP).trans (World.cell?_setCell_other _ _ _ _ yP)
                  refine hK'.out _ _ ⟨(t1 nb 1 hne2).trans v1, (t1 _ 0 (Ne.symm hne1)).trans e0, (t1 _ 1 (Ne.symm hne1)).trans e1⟩ (fun hHeld3 => ?_)
                  clear hK' K'
                  refine wpAnyH_done kr ?_ _
                  obtain ⟨wz, hwz⟩ : ∃ x, x = ((wl.setCell ⟨bh, j * 37 + 33, none⟩ (.bool true)).setCell ⟨bh, j * 37 + 34, none⟩ (.int .u32 pa)).drew := ⟨_, rfl⟩
                  have hbiz : BI w.heap.size nb bh hc Bs (.slice am (startM m).mem.length cm) w wz m ⟨patch mc.mem f bs, reset1 ((j : Int), pa) rs⟩ := by
                    have h9 := HBIL.out.reset HPR.out HJ.out
                    rw [hwz]
                    exact h9.keep (fun _ _ => rfl) (Nat.le_refl _) h9.bel.drew
                  have hkz : ∀ g, g ≠ bh → wz.heap[g]? = wl.heap[g]? := fun g hg => by rw [hwz]; exact (Below.heap_setCell _ _ _ _ (by show g ≠ bh; exact hg)).trans (Below.heap_setCell _ _ _ _ (by show g ≠ bh; exact hg))
                  have hzz : wz.heap.size = wl.heap.size := by rw [hwz]; show ((wl.setCell _ _).setCell _ _).heap.size = _; simp [World.setCell]
                  have hbz : Below w.heap.size wr wz := by
                    rw [hwz]
                    exact ((((HBWL.out.mono (by have := HBIQ.out.geo; omega))).setCell (p := ⟨bh, _, none⟩) HBIQ.out.geo.1 _).setCell (p := ⟨bh, _, none⟩) HBIQ.out.geo.1 _).drew
                  rw [← hwz]
                  have HEND2 : Hid (BI w.heap.size nb bh hc Bs (.slice am (startM m).mem.length cm) w wz m ⟨patch mc.mem f bs, resets (xu.d.lost.take (q + 1)) (mc.harts.set k xu.d.was)⟩ ∧ UKp w.heap.size Bs W wz ∧ (∀ j, j < W.heap.size → (w5.heap.size ≤ j ∨ j = w.heap.size + 1) → wz.heap[j]? = W.heap[j]?) ∧ W.heap.size ≤ wz.heap.size) := lI ⟨by
                    rw [HTK.out, resets_append, ← HRS.out]
                    exact hbiz, ⟨HQ.out.2.1.1.trans hbz, fun v e => (cell_block (hkz Bs HBIQ.out.geo.2.2.2.1) 0).trans ((HBWL.out.cell (lt_of_cell (HQ.out.2.1.2 v e))).trans (HQ.out.2.1.2 v e))⟩, fun g h1 h2 => ((hkz g (by have := HZZ.out; have := HW5.out.2.2.2.2.2.1; omega)).trans (HBWL.out.block g (by have := HQ.out.2.2.2; omega))).trans (HQ.out.2.2.1 g h1 h2), by have := HQ.out.2.2.2; omega⟩
                  clear hwz hbiz hkz hzz hbz s1 s2 t1 d34 dq34 hHeld hHeld2 hHeld3 e0 e1 v1
                  simp only [Exit.then, Exit.inBlock]
                  refine hK3 _ _ ?_
                  clear hK3 K3
                  refine wpIn_region_lit_of (fun ⟨_, _, h⟩ => h) (hd_of zE) ?_
                  go_wp2_with fail
                  rw [wrap_succ hlq (by rw [HLL.out]; exact HLB.out)]
                  exact ⟨⟨q + 1, rfl, hlq, HEND2⟩, meas_lt hlq⟩
                · obtain rfl : q = ll := om
                  refine wpIn_seq_k (fun K1 hK1 => ?_)
                  refine wpIn_region_lit_of (fun ⟨_, _, h⟩ => h) (hd_of zE) ?_
                  go_wp2_with fail
                  refine wpIn_seq_k (fun K2 hK2 => ?_)
                  refine wpIn_cond_false zE ?_
                  refine wpIn_exit ?_
                  simp only [Exit.then, Exit.inBlock, if_true]
                  refine ⟨⟨HQ.out.2.2.2, fun j o h1 h2 _ => (HQ.out.2.2.1 j (Array.getElem?_eq_some_iff.1 h2).1 (.inl h1)).trans h2⟩, HQ.out.2.1, ?_, by have := HQ.out.2.2.2; have := HZZ.out; omega, (HQ.out.2.2.1 _ (Array.getElem?_eq_some_iff.1 HZB.out).1 (.inr rfl)).trans HZB.out⟩
                  rw [HNXT.out]
                  have := HQ.out.1
                  rw [show xu.d.lost.take q = xu.d.lost by rw [HLL.out, List.take_length]] at this
                  have e : backOne xu.d mc = ⟨patch mc.mem f bs, resets xu.d.lost (mc.harts.set k xu.d.was)⟩ := by
                    unfold backOne
                    rw [HKK.out.1, Int.toNat_natCast, ← HFB.out.1, ← HFB.out.2]
                  rw [e]
                  exact this
            case done =>
              intro D ys W hD hS hI hK
              obtain ⟨hBI, hsW, hzb⟩ := hI
              have hbf : backF ys = backL ((us.map (·.d)).drop (us.length - s)) m := by
                unfold backF backL
                have e : (ys.map (·.1.2)).foldl (fun mc x => backOne x.d mc) m = ys.foldl (fun mc x => backOne x.1.2.d mc) m := List.foldl_map
                rw [← e, hS, List.foldl_reverse, ← List.map_drop, List.foldr_map]
              rw [hbf] at hBI
              obtain ⟨mF, hmF⟩ : ∃ x, x = backL ((us.map (·.d)).drop (us.length - s)) m := ⟨_, rfl⟩
              rw [← hmF] at hBI
              have hRF : R = (mF, 0) := by rw [HE0.out, hmF]
              have y0 := hBI.c0
              have y1 := hBI.c1
              have ht : W.there (w.heap.size + 1) 0 2 := there_blk hzb rfl
              have hszF : (Try.prog.info? 25).map (·.size) = some (#[.slice am (startM m).mem.length cm, .slice (some ⟨bh, 0, none⟩) mF.harts.length hc] : Array Value).size := by show _ = some 2; kernel_rfl
              have hallF : (#[.slice am (startM m).mem.length cm, .slice (some ⟨bh, 0, none⟩) mF.harts.length hc] : Array Value).all (·.oneCell') = true := by simp [Value.oneCell']
              have htF : W.there (w.heap.size + 1) 0 (#[.slice am (startM m).mem.length cm, .slice (some ⟨bh, 0, none⟩) mF.harts.length hc] : Array Value).size := ht
              have hDz : D ≠ w.heap.size + 1 := by have := HW5.out.2.2.1; omega
              have HKD := lI hK
              have HBF := lI hBI
              have HRF := lI hRF
              have HTF := lI htF
              clear hbf hmF hRF hS hK hBI hzb
              simp only [Exit.inBlock, Exit.then]
              go_wp2_with (first | (refine wpList_store_mid rfl 25 _ _ rfl (w.heap.size + 1) 0 #[.slice am (startM m).mem.length cm, .slice (some ⟨bh, 0, none⟩) mF.harts.length hc] rfl rfl htF hszF hallF ?_))
              obtain ⟨WF, hWF⟩ : ∃ x, x = W.setCells (w.heap.size + 1) 0 [.slice am (startM m).mem.length cm, .slice (some ⟨bh, 0, none⟩) mF.harts.length hc] := ⟨_, rfl⟩
              rw [← hWF]
              have hKF : WF.heap[D]? = some (.deferred (some [])) := by rw [hWF]; exact (heap_setCells hDz _ _ _).trans HKD.out
              refine ⟨by simp, .inl ⟨_, _, rfl, run_takeDeferred hKF, ?_⟩⟩
              have hatF : At WF (w.heap.size + 1) 0 [.slice am (startM m).mem.length cm, .slice (some ⟨bh, 0, none⟩) mF.harts.length hc] := by rw [hWF]; exact at_set_all HTF.out
              have hgF := grownBy_putObj' WF D (.deferred none)
              have hrF : ∀ r, some D = some r → ∃ o : Obj, WF.heap[r]? = some o ∧ o.isCells = false := fun r e => by cases e; exact ⟨_, hKF, rfl⟩
              have hatG : At (WF.putObj D (.deferred none)) (w.heap.size + 1) 0 (#[.slice am (startM m).mem.length cm, .slice (some ⟨bh, 0, none⟩) mF.harts.length hc] : Array Value).toList := fun j hj => cell_kept (hatF j hj) hgF hrF
              have hW5' := HW5.out
              have hbiF : BI w.heap.size nb bh hc Bs (.slice am (startM m).mem.length cm) w WF m mF := HBF.out.keep (fun g hg => by
                rw [hWF]
                refine heap_setCells ?_ _ _ _
                rcases hg with rfl | rfl | ⟨_, h2⟩
                · omega
                · omega
                · have := hW5'.2.2.2.2.2.2.2 _ h2; omega) (by rw [hWF, size_setCells]; exact Nat.le_refl _) (by rw [hWF]; exact below_setCells om _ _ _ HBF.out.bel)
              have hbiG := hbiF.own (B' := w5.heap.size) HW5.out.2.1 hgF (fun r e => by cases e; exact ⟨hD, _, hKF, rfl⟩)
              refine ⟨_, results_c1t zE _ zE (run_loadVar_at (P := Try.prog) _ (w.heap.size + 1) 0 25 _ _ hatG Try.underlying25 rfl hszF), ?_⟩
              rw [HRF.out]
              refine ⟨⟨_, _, rfl, hbiG.bytes, Sl.mk hbiG.harts ?_ hbiG.hcap.1 hbiG.hcap.2⟩, hbiG.bel⟩
              have hlh : ∀ l : List Hart, (∀ x ∈ l, x.Wf) → (l.flatMap hlist).length = l.length * 37 := fun l => by
                induction l with
                | nil => intro _; rfl
                | cons x r ih =>
                  intro hx
                  rw [List.flatMap_cons, List.length_append, hlist_length (hx x zH), ih (fun y hy => hx y yQ), List.length_cons]
                  omega
              exact hlh mF.harts hbiG.wf.harts
  · obtain ⟨qq, hqq⟩ : ∃ q, q = wrong m [] := ⟨_, rfl⟩
    rw [← hqq] at hq ⊢
    have he : R = (⟨[], []⟩, 2) := by rw [HR.out]; unfold backS; rw [← hqq, if_neg hq]
    obtain ⟨ht, hld, hpost⟩ := HEND.out w2 2 hb2 he
    have HP := lI hpost
    clear hpost he hb2 c0 c1
    go_wp2_with (first | (refine wpList_store_mid rfl 25 _ _ rfl (w.heap.size + 1) 0 #[.slice none 0 0, .slice none 0 0] rfl rfl ht hsz5 hall ?_))
    refine retM0 (results_c1t zE _ zE hld) rfl ?_
    exact HP.out
end Go.Proofs.Ytlfnddmncbkjaac.W
