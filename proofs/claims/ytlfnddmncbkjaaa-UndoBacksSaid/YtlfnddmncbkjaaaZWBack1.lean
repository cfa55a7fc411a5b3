import Derived.Test.YtlfnddmncbkjaaaZMB
import Derived.Test.YtlfnddmncbkjaaaZMA
import Derived.Test.YtlfnddmncbkjaaaZWMay
set_option linter.unusedVariables false
set_option linter.unusedSimpArgs false
set_option maxRecDepth 100000
set_option maxHeartbeats 4000000
namespace Go.Proofs.Ytlfnddmncbkjaaa.W
open Go.RowKit Fb
theorem fits1_any (k : Int) (mb n c : Nat) (ao : Option Addr) (w : World) (hc : w.cell? ⟨mb, 1, none⟩ = some (.slice ao n c)) (hk : i64ok k) :
    Calls Try.prog 84 #[.int .i64 k, .pointer (some ⟨mb, 0, none⟩)] w fun e w' => e = .returned (.bool (decide (0 ≤ k) && decide (k < (n : Int)))) ∧ w' = w := by
  obtain ⟨h1, h2⟩ := hk
  by_cases c0 : 0 ≤ k
  · by_cases c1 : k < (n : Int)
    · have e : (decide (0 ≤ k) && decide (k < (n : Int))) = true := by simp [c0, c1]
      rw [e]
      go_enter Try.func84, Try.ntmps84
      go_wp2
      go_ret
      exact ⟨rfl, rfl⟩
    · have e : (decide (0 ≤ k) && decide (k < (n : Int))) = false := by simp [c1]
      rw [e]
      go_enter Try.func84, Try.ntmps84
      go_wp2
      go_ret
      exact ⟨rfl, rfl⟩
  · have e : (decide (0 ≤ k) && decide (k < (n : Int))) = false := by simp [c0]
    rw [e]
    go_enter Try.func84, Try.ntmps84
    go_wp2
    go_ret
    exact ⟨rfl, rfl⟩
theorem fits_any (vm vh : Value) (m : Mach) (x : UndD) (w : World) (hm : MachAt w vm vh m) (hl : Sl w x.vl 2 x.d.lost.length (x.d.lost.flatMap llist)) (hb : Sl w x.vb 1 x.d.bytes.length (x.d.bytes.map (Value.int .u8))) (wf : x.d.was.Wf) (hr : i64ok x.d.hart ∧ U32 x.d.frm ∧ Bytes x.d.bytes ∧ ∀ p ∈ x.d.lost, i64ok p.1 ∧ U32 p.2) (wfm : ∀ h ∈ m.harts, h.Wf) :
    Calls Try.prog 57 #[.agg #[vm, vh], .agg (ulist x).toArray] w fun e w' => e = .returned (.bool (fitsU m x.d)) ∧ Below w.heap.size w w' := by
  obtain ⟨aom, capm, rfl, hcm, hmm, _, _⟩ := hm.1.open
  obtain ⟨aoh, caph, rfl, hch, hmh, _, _⟩ := hm.2.open (fun h hh => hlist_length (wfm h hh)) (by omega)
  obtain ⟨aob, capb, hvb, hcb, hmb, _, _⟩ := Ints.open (l := x.d.bytes) hb
  obtain ⟨aol, capl, hvl, hcl, hml, _, hol⟩ := Sl.open hl (fun _ _ => rfl) (by omega)
  unfold maxLen at hmm hmh hmb hml
  obtain ⟨w1, hw1⟩ : ∃ w1, w1 = (w.alloc (.cells #[.slice aom m.mem.length capm, .slice aoh m.harts.length caph] 25)).alloc (.cells (ulist x).toArray 109) := ⟨_, rfl⟩
  have hb1 : Below w.heap.size w w1 := by rw [hw1]; exact (Below.alloc (Below.refl _ _) (Nat.le_refl _) _).alloc (by simp) _
  have hs1 : w1.heap.size = w.heap.size + 2 := by rw [hw1]; simp
  have c0 : w1.cell? ⟨w.heap.size, 0, none⟩ = some (.slice aom m.mem.length capm) := by rw [hw1]; go_cell
  have c1 : w1.cell? ⟨w.heap.size, 1, none⟩ = some (.slice aoh m.harts.length caph) := by rw [hw1]; go_cell
  have hux := ulist_at wf.len (show At w1 (w.heap.size + 1) 0 (ulist x) from by
    rw [hw1]
    have := at_alloc (w.alloc (.cells #[.slice aom m.mem.length capm, .slice aoh m.harts.length caph] 25)) (ulist x) 109 (0, 0)
    rwa [World.size_alloc] at this)
  simp only [Nat.zero_add] at hux
  obtain ⟨x0, x1, x38, x39, x40⟩ := hux
  rw [hvb] at x39
  rw [hvl] at x40
  obtain ⟨ll, hll⟩ : ∃ q : Nat, q = x.d.lost.length := ⟨_, rfl⟩
  obtain ⟨bl, hbl⟩ : ∃ q : Nat, q = x.d.bytes.length := ⟨_, rfl⟩
  obtain ⟨f, hf⟩ : ∃ q : Int, q = x.d.frm := ⟨_, rfl⟩
  obtain ⟨k, hk⟩ : ∃ q : Int, q = x.d.hart := ⟨_, rfl⟩
  have hrf := hr.2.1
  have hrk := hr.1
  rw [← hf] at hrf x38
  rw [← hk] at hrk x0
  rw [← hll] at x40
  rw [← hbl] at x39 hcb
  have HR := Lib.hid hr.2.2.2
  have HOL := Lib.hid hol
  have HLL := Lib.hid hll
  have HBL := Lib.hid hbl
  have HF := Lib.hid hf
  have HK := Lib.hid hk
  have HW1 := Lib.hid hw1
  have HB1 := Lib.hid hb1
  have HWF := Lib.hid wf
  have HIS := Lib.hid (fun q W hW hq => fits1_any q w.heap.size m.harts.length caph aoh W hW hq)
  have HFIT : Hid (fitsU m x.d = (x.d.lost.all (fun p => decide (0 ≤ p.1) && decide (p.1 < (m.harts.length : Int))) && ((decide (0 ≤ k) && decide (k < (m.harts.length : Int))) && x.d.was.ok && decide (f + (bl : Int) ≤ (m.mem.length : Int))))) := Lib.hid (by rw [hf, hk, hbl]; rfl)
  obtain ⟨ft, hft⟩ : ∃ b, b = fitsU m x.d := ⟨_, rfl⟩
  rw [← hft] at HFIT ⊢
  clear hft hw1 hb1 hf hk hll hbl hm hl hb hr wf hol hvb hvl
  go_enter Try.func57, Try.ntmps57
  go_upto_region 1 with (fail)
  rw [← HW1.out]
  go_wp2_with fail
  go_loopw [12] (fun i wr => ∃ q : Nat, i = .int .i64 q ∧ q ≤ ll ∧ Hid (Below w1.heap.size w1 wr ∧ (x.d.lost.take q).all (fun p => decide (0 ≤ p.1) && decide (p.1 < (m.harts.length : Int))) = true)) (fun i _ => ll - (intOf i).toNat)
  case atStart => exact ⟨0, rfl, by omega, Lib.hid ⟨Below.refl _ _, rfl⟩⟩
  case round =>
    obtain ⟨q, rfl, hq, HQ⟩ := hrel
    have hsr := HQ.out.1.size
    by_cases hlq : q < ll
    · have hlq2 : q < x.d.lost.length := by have := HLL.out; omega
      obtain ⟨b, off, rfl, hbl, hel⟩ := HOL.out (by intro e; rw [e] at hlq2; simp at hlq2)
      have hat : At wr b (off + q * 2) (llist x.d.lost[q]) := (hel q hlq2).below (HB1.out.trans (HQ.out.1.mono HB1.out.size))
      have d0 := hat.get (j := 0) (v := .int .i64 x.d.lost[q].1) rfl
      have d1 := hat.get (j := 1) (v := .int .u32 x.d.lost[q].2) rfl
      simp only [Nat.add_zero] at d0
      have hp := HR.out _ (List.getElem_mem hlq2)
      have HTK : Hid (x.d.lost.take (q + 1) = x.d.lost.take q ++ [x.d.lost[q]]) := Lib.hid (List.take_succ_eq_append_getElem hlq2)
      have HMEM : Hid (x.d.lost[q] ∈ x.d.lost) := Lib.hid (List.getElem_mem hlq2)
      obtain ⟨p, hpe⟩ : ∃ p, p = x.d.lost[q] := ⟨_, rfl⟩
      rw [← hpe] at d0 d1 hp HTK HMEM
      clear hpe hat hel
      obtain ⟨pj, pa⟩ := p
      simp only at d0 d1 hp
      obtain ⟨w2, hw2⟩ : ∃ x, x = wr.alloc (.cells #[.int .i64 pj, .int .u32 pa] 119) := ⟨_, rfl⟩
      have hb2 : Below wr.heap.size wr w2 := by rw [hw2]; exact Below.alloc (Below.refl _ _) (Nat.le_refl _) _
      have e0 : w2.cell? ⟨wr.heap.size, 0, none⟩ = some (.int .i64 pj) := by rw [hw2]; go_cell
      have HB2 := Lib.hid (HQ.out.1.trans (hb2.mono hsr))
      have e1 := (HB2.out.cell (p := ⟨w.heap.size, 1, none⟩) (by show w.heap.size < _; omega)).trans c1
      have i0 : (0 : Int) ≤ (q : Int) := by omega
      have i1 : (q : Int) < (ll : Int) := by omega
      have HI2 := Lib.hid (HIS.out pj w2 e1 hp.1)
      have HW2 := Lib.hid hw2
      clear hb2 hw2 e1
      go_upto_region 5 with (fail)
      rw [← HW2.out]
      go_wp2_with fail
      refine HI2.out.mono ?_
      rintro e w3 ⟨rfl, rfl⟩
      cases hd : (decide (0 ≤ pj) && decide (pj < (m.harts.length : Int))) with
      | true =>
        have HD := Lib.hid hd
        clear hd
        go_wp2_with fail
        go_roundw
        case rel => exact ⟨q + 1, by simp, hlq, Lib.hid ⟨HB2.out, by rw [HTK.out, List.all_append, HQ.out.2, Bool.true_and]; simp only [List.all_cons, List.all_nil, Bool.and_true]; exact HD.out⟩⟩
        case measure => simp [intOf]; omega
      | false =>
        have hfalse : ft = false := by
          rw [HFIT.out]
          have : x.d.lost.all (fun p => decide (0 ≤ p.1) && decide (p.1 < (m.harts.length : Int))) = false := by
            rw [List.all_eq_false]
            exact ⟨(pj, pa), HMEM.out, by rw [hd]; simp⟩
          rw [this, Bool.false_and]
        subst hfalse
        have HD := Lib.hid hd
        clear hd
        go_wp2_with fail
        go_ret
        exact ⟨rfl, HB1.out.trans (HB2.out.mono HB1.out.size)⟩
    · obtain rfl : q = ll := by omega
      have hall := HQ.out.2
      rw [show x.d.lost.take q = x.d.lost by rw [HLL.out, List.take_length]] at hall
      have HFI2 : Hid (ft = ((decide (0 ≤ k) && decide (k < (m.harts.length : Int))) && x.d.was.ok && decide (f + (bl : Int) ≤ (m.mem.length : Int)))) := Lib.hid (by rw [HFIT.out, hall, Bool.true_and])
      have hb3 := HQ.out.1
      have y0 := (hb3.cell (p := ⟨w.heap.size, 0, none⟩) (by show w.heap.size < _; omega)).trans c0
      have y1 := (hb3.cell (p := ⟨w.heap.size, 1, none⟩) (by show w.heap.size < _; omega)).trans c1
      have z0 := (hb3.cell (p := ⟨w.heap.size + 1, 0, none⟩) (by show w.heap.size + 1 < _; omega)).trans x0
      have z38 := (hb3.cell (p := ⟨w.heap.size + 1, 38, none⟩) (by show w.heap.size + 1 < _; omega)).trans x38
      have z39 := (hb3.cell (p := ⟨w.heap.size + 1, 39, none⟩) (by show w.heap.size + 1 < _; omega)).trans x39
      have z1 : At wr (w.heap.size + 1) 1 (hcells x.d.was).toList := by
        have := x1.of_lt hb3 (by omega)
        simpa [hcells] using this
      have HB3 := Lib.hid (HB1.out.trans (hb3.mono HB1.out.size))
      have HMY := Lib.hid (may_any x.d.was HWF.out wr)
      have hszh : (Try.prog.info? 86).map (·.size) = some (hcells x.d.was).size := by rw [hcells_size HWF.out]; kernel_rfl
      have HI3 := Lib.hid (HIS.out k wr y1 hrk)
      clear c0 c1 x0 x1 x38 x39 x40 hall hb3 HFIT
      go_wp2_with fail
      refine HI3.out.mono ?_
      rintro e w3 ⟨rfl, rfl⟩
      cases hd : (decide (0 ≤ k) && decide (k < (m.harts.length : Int))) with
      | false =>
        have hfalse : ft = false := by rw [HFI2.out, hd, Bool.false_and, Bool.false_and]
        subst hfalse
        clear hd
        go_wp2_with fail
        go_ret
        exact ⟨rfl, HB3.out⟩
      | true =>
        have HFI3 : Hid (ft = (x.d.was.ok && decide (f + (bl : Int) ≤ (m.mem.length : Int)))) := Lib.hid (by rw [HFI2.out, hd, Bool.true_and])
        clear hd HFI2
        go_wp2_with (first | (refine wpList_load_g (by rfl) 86 _ rfl (w.heap.size + 1) 1 rfl (hcells x.d.was) _ z1 Try.underlying86 rfl hszh ?_))
        refine HMY.out.mono ?_
        rintro e w4 ⟨rfl, hb4⟩
        have u0 := (hb4.cell (p := ⟨w.heap.size, 0, none⟩) (lt_of_cell y0)).trans y0
        have u38 := (hb4.cell (p := ⟨w.heap.size + 1, 38, none⟩) (lt_of_cell z38)).trans z38
        have u39 := (hb4.cell (p := ⟨w.heap.size + 1, 39, none⟩) (lt_of_cell z39)).trans z39
        have HB4 := Lib.hid (HB3.out.trans (hb4.mono HB3.out.size))
        clear hb4 y0 y1 z0 z38 z39 z1
        cases hok : x.d.was.ok with
        | false =>
          have hfalse : ft = false := by rw [HFI3.out, hok, Bool.false_and]
          subst hfalse
          clear hok
          go_wp2_with fail
          go_ret
          exact ⟨rfl, HB4.out⟩
        | true =>
          have HFI4 : Hid (ft = decide (f + (bl : Int) ≤ (m.mem.length : Int))) := Lib.hid (by rw [HFI3.out, hok, Bool.true_and])
          clear hok HFI3
          have v1 : IntKind.u64.wrap f = f := by
            have := hrf.1
            have := hrf.2
            simp [IntKind.wrap, IntKind.bits, IntKind.signed]; omega
          have v2 : IntKind.u64.wrap (f + (bl : Int)) = f + (bl : Int) := by
            have := hrf.1
            have := hrf.2
            simp [IntKind.wrap, IntKind.bits, IntKind.signed]; omega
          have HV := Lib.hid (And.intro v1 v2)
          clear v1 v2
          go_wp2_with fail
          go_ret
          refine ⟨?_, HB4.out⟩
          rw [HFI4.out, ← HV.out.2]
          conv => rhs; rw [← HV.out.1]
          rfl
end Go.Proofs.Ytlfnddmncbkjaaa.W
