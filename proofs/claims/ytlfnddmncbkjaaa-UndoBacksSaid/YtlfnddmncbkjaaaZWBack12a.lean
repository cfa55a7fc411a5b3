import Derived.Test.YtlfnddmncbkjaaaZWBack3
import Derived.Test.YtlfnddmncbkjaaaZWPlay0
import Derived.Test.YtlfnddmncbkjaaaZWWrong
set_option linter.unusedVariables false
set_option linter.unusedSimpArgs false
set_option maxRecDepth 100000
set_option maxHeartbeats 4000000
namespace Go.Proofs.Ytlfnddmncbkjaaa.W
open Go.RowKit Fb
theorem fits12_any (vm vh : Value) (m : Mach) (x : UndD) (w : World) (hm : MachAt w vm vh m) (hl : Sl w x.vl 2 x.d.lost.length (x.d.lost.flatMap llist)) (hb : Sl w x.vb 1 x.d.bytes.length (x.d.bytes.map (Value.int .u8))) (wf : x.d.was.Wf) (hr : i64ok x.d.hart ∧ U32 x.d.frm ∧ Bytes x.d.bytes ∧ ∀ p ∈ x.d.lost, i64ok p.1 ∧ U32 p.2) (wfm : ∀ h ∈ m.harts, h.Wf) (hbn : x.d.bytes.length ≤ 140737488355328) (hln : x.d.lost.length ≤ 140737488355328) :
    Calls Try.prog 60 #[.agg #[vm, vh], .agg (ulist x).toArray] w fun e w' => e = .returned (.bool (fitsU m x.d)) ∧ Below w.heap.size w w' := by
  obtain ⟨aom, capm, rfl, hcm, hmm, _, _⟩ := hm.1.open
  obtain ⟨aoh, caph, rfl, hch, hmh, _, _⟩ := hm.2.open (fun h hh => hlist_length (wfm h hh)) (by omega)
  obtain ⟨aob, capb, hvb, hcb, hmb, _, _⟩ := Ints.open (l := x.d.bytes) hb
  obtain ⟨aol, capl, hvl, hcl, hml, _, hol⟩ := Sl.open hl (fun _ _ => rfl) (by omega)
  unfold maxLen at hmm hmh hmb hml
  obtain ⟨w1, hw1⟩ : ∃ w1, w1 = (w.alloc (.cells #[.slice aom m.mem.length capm, .slice aoh m.harts.length caph] 25)).alloc (.cells (ulist x).toArray 109) := ⟨_, rfl⟩
  have hb1 : Below w.heap.size w w1 := by rw [hw1]; exact (Below.alloc (Below.refl _ _) (Nat.le_refl _) _).alloc (by simp) _
  have hs1 : w1.heap.size = w.heap.size + 2 := by rw [hw1]; simp
  have c0 : w1.cell? ⟨w.heap.size, 0, none⟩ = some (.slice aom m.mem.length capm) := by rw [hw1]; go_cell
  have c1 : w1.cell? ⟨w.heap.size, 1, none⟩ = some (.slice aoh m.harts.length caph) := by rw [hw1]; go_cell
  have hux := ulist_at wf.len (show At w1 (w.heap.size + 1) 0 (ulist x) from by
    rw [hw1]
    have := at_alloc (w.alloc (.cells #[.slice aom m.mem.length capm, .slice aoh m.harts.length caph] 25)) (ulist x) 109 (0, 0)
    rwa [World.size_alloc] at this)
  simp only [Nat.zero_add] at hux
  obtain ⟨x0, x1, x38, x39, x40⟩ := hux
  rw [hvb] at x39
  rw [hvl] at x40
  obtain ⟨ll, hll⟩ : ∃ q : Nat, q = x.d.lost.length := ⟨_, rfl⟩
  obtain ⟨bl, hbl⟩ : ∃ q : Nat, q = x.d.bytes.length := ⟨_, rfl⟩
  obtain ⟨f, hf⟩ : ∃ q : Int, q = x.d.frm := ⟨_, rfl⟩
  obtain ⟨k, hk⟩ : ∃ q : Int, q = x.d.hart := ⟨_, rfl⟩
  have hrf := hr.2.1
  have hrk := hr.1
  rw [← hf] at hrf x38
  rw [← hk] at hrk x0
  rw [← hll] at x40 hln
  rw [← hbl] at hbn
  rw [← hbl] at x39 hcb
  have HR := Lib.hid hr.2.2.2
  have HOL := Lib.hid hol
  have HLL := Lib.hid hll
  have HBL := Lib.hid hbl
  have HF := Lib.hid hf
  have HK := Lib.hid hk
  have HW1 := Lib.hid hw1
  have HB1 := Lib.hid hb1
  have HWF := Lib.hid wf
  have HFIT : Hid (fitsU m x.d = (x.d.lost.all (fun p => decide (0 ≤ p.1) && decide (p.1 < (m.harts.length : Int))) && ((decide (0 ≤ k) && decide (k < (m.harts.length : Int))) && x.d.was.ok && decide (f + (bl : Int) ≤ (m.mem.length : Int))))) := Lib.hid (by rw [hf, hk, hbl]; rfl)
  obtain ⟨ft, hft⟩ : ∃ b, b = fitsU m x.d := ⟨_, rfl⟩
  rw [← hft] at HFIT ⊢
  clear hft hw1 hb1 hf hk hll hbl hm hl hb hr wf hol hvb hvl
  go_enter Try.func60, Try.ntmps60
  go_upto_region 1 with (fail)
  rw [← HW1.out]
  have HMY := Lib.hid (fun W => may4_any x.d.was HWF.out W)
  have hszh : (Try.prog.info? 86).map (·.size) = some (hcells x.d.was).size := by rw [hcells_size HWF.out]; kernel_rfl
  have z1 : At w1 (w.heap.size + 1) 1 (hcells x.d.was).toList := by simpa [hcells] using x1
  clear x1
  have HX40 := Lib.hid x40
  have HC0 := Lib.hid c0
  have HX38 := Lib.hid x38
  have HX39 := Lib.hid x39
  clear x40 c0 x38 x39
  by_cases k0 : 0 ≤ k
  rotate_left
  · have hfalse : ft = false := by
      rw [HFIT.out, show decide (0 ≤ k) = false by simpa using k0]
      simp
    subst hfalse
    clear z1
    go_wp2_with fail
    go_ret
    exact ⟨rfl, HB1.out⟩
  by_cases k1 : k < (m.harts.length : Int)
  rotate_left
  · have hfalse : ft = false := by
      rw [HFIT.out, show decide (k < (m.harts.length : Int)) = false by simpa using k1]
      simp
    subst hfalse
    clear z1
    go_wp2_with fail
    go_ret
    exact ⟨rfl, HB1.out⟩
  have HFI2 : Hid (ft = (x.d.lost.all (fun p => decide (0 ≤ p.1) && decide (p.1 < (m.harts.length : Int))) && (x.d.was.ok && decide (f + (bl : Int) ≤ (m.mem.length : Int))))) := Lib.hid (by
    rw [HFIT.out, show decide (0 ≤ k) = true by simpa using k0, show decide (k < (m.harts.length : Int)) = true by simpa using k1, Bool.true_and, Bool.true_and])
  clear HFIT
  have g1 : decide (k < 0) = false := by simpa using k0
  have g2 : decide ((m.harts.length : Int) ≤ k) = false := by simpa using k1
  go_wp2_with (first | (refine wpList_load_g (by rfl) 86 _ rfl (w.heap.size + 1) 1 rfl (hcells x.d.was) _ z1 Try.underlying86 rfl hszh ?_))
  refine (HMY.out _).mono ?_
  rintro e w4 ⟨rfl, hb4⟩
  have hs4 := hb4.size
  have u0 := (hb4.cell (p := ⟨w.heap.size, 0, none⟩) (lt_of_cell HC0.out)).trans HC0.out
  have u38 := (hb4.cell (p := ⟨w.heap.size + 1, 38, none⟩) (lt_of_cell HX38.out)).trans HX38.out
  have u39 := (hb4.cell (p := ⟨w.heap.size + 1, 39, none⟩) (lt_of_cell HX39.out)).trans HX39.out
  have u40 := (hb4.cell (p := ⟨w.heap.size + 1, 40, none⟩) (lt_of_cell HX40.out)).trans HX40.out
  have HB4 := Lib.hid (HB1.out.trans (hb4.mono (by omega)))
  clear hb4 z1
  cases hok : x.d.was.ok with
  | false =>
    have hfalse : ft = false := by rw [HFI2.out, hok, Bool.false_and, Bool.and_false]
    subst hfalse
    clear hok u0 u38 u39 u40
    go_wp2_with fail
    go_ret
    exact ⟨rfl, HB4.out⟩
  | true =>
    have HFI3 : Hid (ft = (x.d.lost.all (fun p => decide (0 ≤ p.1) && decide (p.1 < (m.harts.length : Int))) && decide (f + (bl : Int) ≤ (m.mem.length : Int)))) := Lib.hid (by rw [HFI2.out, hok, Bool.true_and])
    clear hok HFI2
    have v1 : IntKind.i64.wrap f = f := by
      have := hrf.1
      have := hrf.2
      simp (disch := omega) only [IntWalk.i64_in]
    have v2 : wrap64 (f + (bl : Int)) = f + (bl : Int) := by
      have := hrf.1
      have := hrf.2
      unfold wrap64; omega
    by_cases hsz : f + (bl : Int) ≤ (m.mem.length : Int)
    rotate_left
    · have hfalse : ft = false := by rw [HFI3.out, show decide (f + (bl : Int) ≤ (m.mem.length : Int)) = false by simpa using hsz, Bool.and_false]
      subst hfalse
      have hsz2 : (m.mem.length : Int) < f + (bl : Int) := by omega
      clear u40
      go_wp2_with fail
      go_ret
      exact ⟨rfl, HB4.out⟩
    have HFI4 : Hid (ft = x.d.lost.all (fun p => decide (0 ≤ p.1) && decide (p.1 < (m.harts.length : Int)))) := Lib.hid (by rw [HFI3.out, show decide (f + (bl : Int) ≤ (m.mem.length : Int)) = true by simpa using hsz, Bool.and_true])
    have hsz2 : ¬ (m.mem.length : Int) < f + (bl : Int) := by omega
    have HU40 := Lib.hid u40
    clear HFI3 u40
    go_wp2_with fail
    clear u0 u38 u39 hsz hsz2 v1 v2
    go_loopw [6] (fun i wr => ∃ q : Nat, i = .int .i64 q ∧ q ≤ ll ∧ Hid (wr = w4 ∧ (x.d.lost.take q).all (fun p => decide (0 ≤ p.1) && decide (p.1 < (m.harts.length : Int))) = true)) (fun i _ => ll - (intOf i).toNat)
    case atStart => exact ⟨0, rfl, by omega, Lib.hid ⟨rfl, rfl⟩⟩
    case round =>
      obtain ⟨q, rfl, hq, HQ⟩ := hrel
      obtain ⟨rfl, hall0⟩ := HQ.out
      have HA0 := Lib.hid hall0
      clear hall0 HQ
      have d40 := HU40.out
      by_cases hlq : q < ll
      · have hlq2 : q < x.d.lost.length := by have := HLL.out; omega
        obtain ⟨b, off, rfl, hbl, hel⟩ := HOL.out (by intro e; rw [e] at hlq2; simp at hlq2)
        have hat : At wr b (off + q * 2) (llist x.d.lost[q]) := (hel q hlq2).below HB4.out
        have d0 := hat.get (j := 0) (v := .int .i64 x.d.lost[q].1) rfl
        simp only [Nat.add_zero] at d0
        have hp := HR.out _ (List.getElem_mem hlq2)
        have HTK : Hid (x.d.lost.take (q + 1) = x.d.lost.take q ++ [x.d.lost[q]]) := Lib.hid (List.take_succ_eq_append_getElem hlq2)
        have HMEM : Hid (x.d.lost[q] ∈ x.d.lost) := Lib.hid (List.getElem_mem hlq2)
        obtain ⟨p, hpe⟩ : ∃ p, p = x.d.lost[q] := ⟨_, rfl⟩
        rw [← hpe] at d0 hp HTK HMEM
        clear hpe hat hel hlq2
        obtain ⟨pj, pa⟩ := p
        simp only at d0 hp
        have i0 : (0 : Int) ≤ (q : Int) := by omega
        have i1 : (q : Int) < (ll : Int) := by omega
        have hp1 := hp.1
        clear hp
        have HBAD : Hid ((decide (0 ≤ pj) && decide (pj < (m.harts.length : Int))) = false → ft = false) := Lib.hid (fun hd => by
          rw [HFI4.out, List.all_eq_false]
          exact ⟨(pj, pa), HMEM.out, by rw [hd]; simp⟩)
        by_cases j0 : 0 ≤ pj
        rotate_left
        · have hfalse := HBAD.out (by rw [show decide (0 ≤ pj) = false by simpa using j0, Bool.false_and])
          subst hfalse
          go_wp2_with fail
          go_ret
          exact ⟨rfl, HB4.out⟩
        by_cases j1 : pj < (m.harts.length : Int)
        rotate_left
        · have hfalse := HBAD.out (by rw [show decide (pj < (m.harts.length : Int)) = false by simpa using j1, Bool.and_false])
          subst hfalse
          go_wp2_with fail
          go_ret
          exact ⟨rfl, HB4.out⟩
        have HD : Hid ((decide (0 ≤ pj) && decide (pj < (m.harts.length : Int))) = true) := Lib.hid (by rw [show decide (0 ≤ pj) = true by simpa using j0, show decide (pj < (m.harts.length : Int)) = true by simpa using j1, Bool.true_and])
        go_wp2_with fail
        go_roundw
        case rel => exact ⟨q + 1, by simp, hlq, Lib.hid ⟨by first | rfl | trivial, by rw [HTK.out, List.all_append, HA0.out, Bool.true_and]; simp only [List.all_cons, List.all_nil, Bool.and_true]; exact HD.out⟩⟩
        case measure => simp [intOf]; omega
      · obtain rfl : q = ll := by omega
        have hall := HA0.out
        rw [show x.d.lost.take q = x.d.lost by rw [HLL.out, List.take_length]] at hall
        have htrue : ft = true := HFI4.out.trans hall
        subst htrue
        clear hall
        go_wp2_with fail
        go_ret
        exact ⟨rfl, HB4.out⟩
end Go.Proofs.Ytlfnddmncbkjaaa.W
