import Derived.Test.YtlfnddmncbkjaacZGW
import Derived.Test.YtlfnddmncbkjaacZMA
import Derived.Test.YtlfnddmncbkjaacZWRun8e
import Derived.Test.YtlfnddmncbkjaacZGC
set_option linter.unusedVariables false
set_option linter.unusedSimpArgs false
set_option maxRecDepth 100000
set_option maxHeartbeats 4000000
namespace Go.Proofs.Ytlfnddmncbkjaac.W
open Go.RowKit Fb
end Go.Proofs.Ytlfnddmncbkjaac.W
namespace Go.Proofs.Ytlfnddmncbkjaac.Fb
open Go.RowKit
end Go.Proofs.Ytlfnddmncbkjaac.Fb
namespace Go.Proofs.Ytlfnddmncbkjaac.W
open Go.RowKit Fb
end Go.Proofs.Ytlfnddmncbkjaac.W
namespace Go.Proofs.Ytlfnddmncbkjaac.Fb
open Go.RowKit
theorem call_steps (d : RunD) : d.call.steps = d.steps := by
  unfold RunD.call
  repeat' (refine ite_ind (P := fun x : RunD => x.steps = d.steps) (fun _ => ?_) (fun _ => ?_))
  all_goals rfl
theorem atom_steps (d : RunD) (op : Int) (kd ka kb : Nat) : (d.atom op kd ka kb).steps = d.steps := by
  unfold RunD.atom
  repeat' (refine ite_ind (P := fun x : RunD => x.steps = d.steps) (fun _ => ?_) (fun _ => ?_))
  all_goals first
    | rfl
    | exact (put_same _ _ _).1
theorem one_left (d : RunD) (m : MicD) (st : Int) (h : 0 ≤ st - d.steps) : 0 ≤ st - (d.one m st).steps := by
  by_cases c : m.op = 1
  · by_cases q : d.steps = st
    · have e : d.one m st = d.stop m.n := by unfold RunD.one; rw [if_pos c, if_pos (by simp [q])]
      rw [e]; exact h
    · have := (r7near_one d m st).s1
      omega
  · have e : (d.one m st).steps = d.steps := by
      unfold RunD.one
      rw [if_neg c]
      repeat' (refine ite_ind (P := fun x : RunD => x.steps = d.steps) (fun _ => ?_) (fun _ => ?_))
      all_goals first
        | rfl
        | exact (put_same _ _ _).1
        | exact call_steps d
        | exact atom_steps d _ _ _ _
    rw [e]; exact h
def RunD.begin (d : RunD) : RunD := { d with here := d.h.pc }
end Go.Proofs.Ytlfnddmncbkjaac.Fb
namespace Go.Proofs.Ytlfnddmncbkjaac.W
open Go.RowKit Fb
section
variable {rp cp hb po : Nat} {vm : Value} {w : World} {d : RunD} {vs : Value} {steps fr tw : Int}
theorem one8_any (h : R8 rp cp hb po vm 58 158 163 w d vs steps 0 0) (m : MicD) (hm : mayM m = true) (hn : U32 m.n) (hst : i64ok steps) (hds : 0 ≤ d.steps ∧ d.steps ≤ 100000) (hle : 0 ≤ steps - d.steps) (hsl : d.stores.length ≤ 100000) (hol : d.out.length ≤ 100000) (hov : d.over = false) :
    Calls Try.prog 112 #[.pointer (some ⟨rp, 0, none⟩), .agg (mlist m).toArray] w fun e w' => e = .returned (.bool (!(d.one m steps).over)) ∧ ∃ vs', R8 rp cp hb po vm 58 158 163 w' (d.one m steps) vs' steps 0 0 ∧ G8 rp 58 cp hb po vm w w' := by
  obtain ⟨r1, r2, r3⟩ := mayM_regs hm
  have hc := named_cls (mayM_named hm)
  obtain ⟨op, kd, ka, kb, n⟩ := m
  dsimp only at r1 r2 r3 hc hn
  obtain ⟨kd, rfl⟩ := Int.eq_ofNat_of_zero_le r1.1
  obtain ⟨ka, rfl⟩ := Int.eq_ofNat_of_zero_le r2.1
  obtain ⟨kb, rfl⟩ := Int.eq_ofNat_of_zero_le r3.1
  have hkd : kd < 36 := om
  have hka : ka < 36 := om
  have hkb : kb < 36 := om
  simp only [mlist]
  rcases hc with (e | e | e | e | e | e) | ⟨s, e, h1, h2⟩ | ⟨s, e, h1, h2⟩ | ⟨s, e, h1, h2⟩ | ⟨s, e, h1, h2⟩ | ⟨s, e, h1, h2⟩ | ⟨s, e, h1, h2⟩
  · exact one8_at h op n kd ka kb hkd hka hkb hn hst hds hle hsl hol hov e _ rfl
  · exact one8_set h op n kd ka kb hkd hka hkb hn hst hds hle hsl hol hov e _ rfl
  · exact one8_go h op n kd ka kb hkd hka hkb hn hst hds hle hsl hol hov e _ rfl
  · exact one8_reg h op n kd ka kb hkd hka hkb hn hst hds hle hsl hol hov e _ rfl
  · exact one8_call h op n kd ka kb hkd hka hkb hn hst hds hle hsl hol hov e _ rfl
  · exact one8_brk h op n kd ka kb hkd hka hkb hn hst hds hle hsl hol hov e _ rfl
  · exact one8_if h op n kd ka kb hkd hka hkb hn hst hds hle hsl hol hov s e ⟨h1, h2⟩ _ rfl
  · exact one8_load h op n kd ka kb hkd hka hkb hn hst hds hle hsl hol hov s e ⟨h1, h2⟩ _ rfl
  · exact one8_store h op n kd ka kb hkd hka hkb hn hst hds hle hsl hol hov s e ⟨h1, h2⟩ _ rfl
  · exact one8_alu h op n kd ka kb hkd hka hkb hn hst hds hle hsl hol hov s e ⟨h1, h2⟩ _ rfl
  · exact one8_alun h op n kd ka kb hkd hka hkb hn hst hds hle hsl hol hov s e ⟨h1, h2⟩ _ rfl
  · exact one8_atom h op n kd ka kb hkd hka hkb hn hst hds hle hsl hol hov s e ⟨h1, h2⟩ _ rfl
theorem do8_any (h : R8 rp cp hb po vm 58 158 163 w d vs steps fr tw) (vc : Value) (code : List MicD) (hc : Sl w vc 5 code.length (code.flatMap mlist)) (hfar : ∀ b off n c, vc = .slice (some ⟨b, off, none⟩) n c → code ≠ [] → b < w.heap.size ∧ b ≠ hb ∧ vm.ownBlock ≠ some b ∧ (b < cp ∨ (cp < b ∧ b < rp ∧ ∀ cs f, w.heap[b]? ≠ some (.cells cs 58 f)))) (hmay : mayL code = true) (hok : ∀ x ∈ code, x.Ok)
    (hst : i64ok steps) (hds : 0 ≤ d.steps ∧ d.steps ≤ 50000) (hle : 0 ≤ steps - d.steps) (hsl : d.stores.length ≤ 50000) (hol : d.out.length ≤ 50000) (hov : d.over = false) (d' : RunD) (hd' : d' = (runL steps code d.begin).fin) :
    Calls Try.prog 90 #[.pointer (some ⟨rp, 0, none⟩), vc] w fun e w' => e = .returned (.tuple #[]) ∧ ∃ vs', R8 rp cp hb po vm 58 158 163 w' d' vs' steps 0 0 ∧ G8 rp 58 cp hb po vm w w' := by
  obtain ⟨ac, cc, rfl, hcc, hcm, -, ho⟩ := hc.open (fun _ _ => rfl) om
  unfold maxLen at hcm
  have hcl : code.length ≤ 200 := by unfold mayL at hmay; rw [Bool.and_eq_true, decide_eq_true_eq] at hmay; exact hmay.1
  have HO := lI ho
  have HFAR := lI hfar
  have HMAY := lI hmay
  have HOK := lI hok
  have HC := lI hc
  have g0 := h.at_.get (r8_head 0 om)
  have g10 := h.at_.get (r8_end h.wf.tlen 0)
  have p0 : w.cell? ⟨cp, 0, none⟩ = some (.pointer (some ⟨hb, po, none⟩)) := h.core.ptr
  have p3 : w.cell? ⟨cp, 3, none⟩ = some (.int .u32 fr) := h.core.fr
  have p4 : w.cell? ⟨cp, 4, none⟩ = some (.int .u32 tw) := h.core.tw
  have hpc := h.core.hart.get (hlist_pc h.wf.h)
  have f3 := h.core.frz 3
  have f4 := h.core.frz 4
  have f10 := h.frz 10
  have hlt := h.rlt
  have hcr := h.lt
  have hhc := h.core.hbl
  have hne1 : hb ≠ cp := om
  have hne2 : hb ≠ rp := om
  have hne3 : cp ≠ rp := om
  simp only [Nat.zero_add, Nat.reduceAdd] at g0 g10 hpc
  obtain ⟨pc, hpcd⟩ : ∃ pc, pc = d.h.pc := ⟨_, rfl⟩
  have hpc' : w.cell? ⟨hb, po + 32, none⟩ = some (.int .u32 pc) := by rw [hpcd]; exact hpc
  have HB := lI (fun n => by
    have H1 := (h.below (w' := w.drewN n) (below_drewN br _)).setFrTo tyR tyS
    have H2 := H1.1.setCell (d' := d.begin) tyR 10 om (.int .u32 pc) (r8_setEnd (d := d) (d' := d.begin) (j := 0) h.wf.tlen rfl rfl rfl rfl (by rw [hpcd]; rfl)) rfl rfl rfl rfl { h.wf with here := h.wf.h.pc }
    exact And.intro H2 (((G8.below (rp := rp) (TU := 58) (cp := cp) (hb := hb) (po := po) (vm := vm) (below_drewN (Below.refl _ w) n) h.clt).trans H1.2).trans (G8.set h.lts 10 (.int .u32 pc))))
  obtain ⟨d1, hd1⟩ : ∃ d1, d1 = d.begin := ⟨_, rfl⟩
  rw [← hd1] at HB hd'
  have HS1 : Hid (0 ≤ d1.steps ∧ d1.steps ≤ 50000 ∧ 0 ≤ steps - d1.steps ∧ d1.stores.length ≤ 50000 ∧ d1.out.length ≤ 50000 ∧ d1.over = false) := lI (by rw [hd1]; exact ⟨hds.1, hds.2, hle, hsl, hol, hov⟩)
  have HD := lI hd'
  clear h ho hfar hmay hok hc hpc hpcd hd1 hd' hds hle hsl hol hov
  go_enter Try.func90, Try.ntmps90
  go_upto_region 0 with (fail)
  go_region
  obtain ⟨w1, hw1⟩ : ∃ w1, w1 = (((w.setCell ⟨cp, 3, none⟩ (.int .u32 0)).setCell ⟨cp, 4, none⟩ (.int .u32 0)).setCell ⟨rp, 10, none⟩ (.int .u32 pc)).drew := ⟨_, rfl⟩
  have HI1 : Hid (R8 rp cp hb po vm 58 158 163 w1 d1 vs steps 0 0 ∧ G8 rp 58 cp hb po vm w w1) := lI (by rw [hw1]; exact HB.out 1)
  rw [← hw1]
  clear hw1 HB g0 g10 p0 p3 p4 hpc' f3 f4 f10
  go_wp2_with fail
  go_loopw [33] (fun i wr => ∃ k : Nat, i = .int .i64 k ∧ k ≤ code.length ∧ ∃ (e : RunD) (us : Value), Hid (R8 rp cp hb po vm 58 158 163 wr e us steps 0 0 ∧ G8 rp 58 cp hb po vm w wr ∧ runL steps (code.drop k) e = runL steps code d1 ∧ e.over = false ∧ 0 ≤ e.steps ∧ e.steps ≤ 50000 + (k : Int) ∧ 0 ≤ steps - e.steps ∧ e.stores.length ≤ 50000 + k ∧ e.out.length ≤ 50000 + k)) (fun i _ => code.length - (intOf i).toNat)
  case atStart => exact ⟨0, rfl, om, d1, vs, lI ⟨HI1.out.1, HI1.out.2, by simp, HS1.out.2.2.2.2.2, HS1.out.1, by have := HS1.out.2.1; omega, HS1.out.2.2.1, by have := HS1.out.2.2.2.1; omega, by have := HS1.out.2.2.2.2.1; omega⟩⟩
  case round =>
    obtain ⟨k, rfl, hk, e, us, HI⟩ := hrel
    by_cases hlt : k < code.length
    · have i1 : (k : Int) < (code.length : Int) := om
      have i0 : (0 : Int) ≤ (k : Int) := om
      obtain ⟨b, off, rfl, hbl, hel⟩ := HO.out zK
      obtain ⟨q1, q2, q3, q4⟩ := HFAR.out b off _ _ rfl zK
      have hbk := HI.out.2.1.block b q1 q2 q3 q4
      have hat : At wr b (off + k * 5) (mlist code[k]) := fun j hj => (cell_block hbk _).trans (hel k hlt j hj)
      have hmm : mayM code[k] = true := by
        have := HMAY.out
        unfold mayL at this
        rw [Bool.and_eq_true, List.all_eq_true] at this
        exact this.2 _ (List.getElem_mem hlt)
      have hmk := (HOK.out code[k] (List.getElem_mem hlt)).n
      have hrl : runL steps (code.drop k) e = runL steps (code.drop (k + 1)) (e.one code[k] steps) := by
        rw [List.drop_eq_getElem_cons hlt, runL, if_neg (by rw [HI.out.2.2.2.1]; simp)]
      have hnr := r7near_one e code[k] steps
      have hol1 := one_left e code[k] steps HI.out.2.2.2.2.2.2.1
      obtain ⟨mm, hmmd⟩ : ∃ mm, mm = code[k] := ⟨_, rfl⟩
      rw [← hmmd] at hat hmm hmk hrl hnr hol1
      clear hmmd hel q2 q3 q4 hbk
      obtain ⟨op, kd, ka, kb, n⟩ := mm
      have HON := lI (fun W (hW : Below wr.heap.size wr W) => one8_any (HI.out.1.below hW) ⟨op, kd, ka, kb, n⟩ hmm hmk hst ⟨HI.out.2.2.2.2.1, by have := HI.out.2.2.2.2.2.1; omega⟩ HI.out.2.2.2.2.2.2.1 (by have := HI.out.2.2.2.2.2.2.2.1; omega) (by have := HI.out.2.2.2.2.2.2.2.2; omega) HI.out.2.2.2.1)
      have HON' : Hid (∀ W, Below wr.heap.size wr W → Calls Try.prog 112 #[.pointer (some ⟨rp, 0, none⟩), .agg #[.int .i64 op, .int .i64 kd, .int .i64 ka, .int .i64 kb, .int .u32 n]] W fun x w' => x = .returned (.bool (!(e.one ⟨op, kd, ka, kb, n⟩ steps).over)) ∧ ∃ vs', R8 rp cp hb po vm 58 158 163 w' (e.one ⟨op, kd, ka, kb, n⟩ steps) vs' steps 0 0 ∧ G8 rp 58 cp hb po vm W w') := lI HON.out
      have e0 := hat.get (j := 0) (v := .int .i64 op) rfl
      have e1 := hat.get (j := 1) (v := .int .i64 kd) rfl
      have e2 := hat.get (j := 2) (v := .int .i64 ka) rfl
      have e3 := hat.get (j := 3) (v := .int .i64 kb) rfl
      have e4 := hat.get (j := 4) (v := .int .u32 n) rfl
      simp only [Nat.add_zero] at e0
      have HNR := lI (And.intro hnr hol1)
      have HRL := lI hrl
      obtain ⟨w5, hw5⟩ : ∃ w5, w5 = wr.alloc (.cells #[.int .i64 op, .int .i64 kd, .int .i64 ka, .int .i64 kb, .int .u32 n] 196) := ⟨_, rfl⟩
      have HB5 : Hid (Below wr.heap.size wr w5) := lI (by rw [hw5]; exact Fb.blw)
      have HW5 := lI hw5
      have hclt := HI.out.1.clt
      obtain ⟨ov, hov⟩ : ∃ ov, ov = (e.one ⟨op, kd, ka, kb, n⟩ steps).over := ⟨_, rfl⟩
      rw [← hov] at HON'
      have HOV := lI hov
      clear HON hat hmm hmk hrl hnr hw5 hol1 hov
      go_upto_region 4 with (fail)
      rw [← HW5.out]
      have g0 : (w5).cell? ⟨wr.heap.size, 0, none⟩ = some (.int .i64 op) := by rw [HW5.out]; go_cell
      have g1 : (w5).cell? ⟨wr.heap.size, 1, none⟩ = some (.int .i64 kd) := by rw [HW5.out]; go_cell
      have g2 : (w5).cell? ⟨wr.heap.size, 2, none⟩ = some (.int .i64 ka) := by rw [HW5.out]; go_cell
      have g3 : (w5).cell? ⟨wr.heap.size, 3, none⟩ = some (.int .i64 kb) := by rw [HW5.out]; go_cell
      have g4 : (w5).cell? ⟨wr.heap.size, 4, none⟩ = some (.int .u32 n) := by rw [HW5.out]; go_cell
      go_wp2_with fail
      refine (HON'.out w5 HB5.out).mono ?_
      rintro x w9 ⟨rfl, vs', h9, g9⟩
      have HN := lI (And.intro h9 (HI.out.2.1.trans ((G8.below HB5.out hclt).trans g9)))
      clear h9 g9 g0 g1 g2 g3 g4 e0 e1 e2 e3 e4
      cases ov with
      | true =>
        go_wp2_with fail
        refine bodyPost_ret (results_none zL _ _ _) rfl ?_
        have e1 : runL steps code d1 = e.one ⟨op, kd, ka, kb, n⟩ steps := by
          rw [← HI.out.2.2.1, HRL.out, runL_over HOV.out.symm]
        have e2 : d' = e.one ⟨op, kd, ka, kb, n⟩ steps := by
          rw [HD.out, e1]
          unfold RunD.fin
          rw [if_neg (by rw [← HOV.out]; simp)]
        rw [e2]
        first
          | exact ⟨rfl, vs', HN.out.1, HN.out.2⟩
          | exact ⟨rfl, ⟨vs', HN.out.1⟩, HN.out.2⟩
      | false =>
        have HN9 : Hid (R8 rp cp hb po vm 58 158 163 w9 (e.one ⟨op, kd, ka, kb, n⟩ steps) vs' steps 0 0 ∧ G8 rp 58 cp hb po vm w w9 ∧ runL steps (code.drop (k + 1)) (e.one ⟨op, kd, ka, kb, n⟩ steps) = runL steps code d1 ∧ (e.one ⟨op, kd, ka, kb, n⟩ steps).over = false ∧ 0 ≤ (e.one ⟨op, kd, ka, kb, n⟩ steps).steps ∧ (e.one ⟨op, kd, ka, kb, n⟩ steps).steps ≤ 50000 + ((k + 1 : Nat) : Int) ∧ 0 ≤ steps - (e.one ⟨op, kd, ka, kb, n⟩ steps).steps ∧ (e.one ⟨op, kd, ka, kb, n⟩ steps).stores.length ≤ 50000 + (k + 1) ∧ (e.one ⟨op, kd, ka, kb, n⟩ steps).out.length ≤ 50000 + (k + 1)) := lI ⟨HN.out.1, HN.out.2, by rw [← HRL.out]; exact HI.out.2.2.1, HOV.out.symm, by have := HNR.out.1.s0; have := HI.out.2.2.2.2.1; omega, by have := HNR.out.1.s1; have := HI.out.2.2.2.2.2.1; omega, HNR.out.2, by have := HNR.out.1.st; have := HI.out.2.2.2.2.2.2.2.1; omega, by have := HNR.out.1.ou; have := HI.out.2.2.2.2.2.2.2.2; omega⟩
        go_wp2_with fail
        go_roundw
        case rel => exact ⟨k + 1, by simp, om, _, _, HN9⟩
        case measure => simp [intOf]; omega
    · have i1 : ¬ (k : Int) < (code.length : Int) := om
      have hfin : runL steps code d1 = e := by
        rw [← HI.out.2.2.1, List.drop_of_length_le om]; rfl
      have h5 := HI.out.1
      have k4 := h5.at_.get (r8_head 4 om)
      have k0 := h5.at_.get (r8_head 0 om)
      have k10 := h5.at_.get (r8_end h5.wf.tlen 0)
      have p0 : wr.cell? ⟨cp, 0, none⟩ = some (.pointer (some ⟨hb, po, none⟩)) := h5.core.ptr
      have hpc := h5.core.hart.get (hlist_pc h5.wf.h)
      have f32 := h5.core.hfz (po + 32)
      simp only [Nat.zero_add, Nat.reduceAdd] at k0 k4 k10 hpc
      obtain ⟨ds, hds⟩ : ∃ ds, ds = e.steps := ⟨_, rfl⟩
      have k4' : wr.cell? ⟨rp, 4, none⟩ = some (.int .i64 ds) := by rw [hds]; exact k4
      have k10' : wr.cell? ⟨rp, 10, none⟩ = some (.int .u32 e.here) := k10
      by_cases hpos : 0 < e.steps
      · have hp1 : decide (0 < ds) = true := by rw [hds]; exact decide_eq_true hpos
        have hp2 : 0 < ds := by rw [hds]; exact hpos
        have he2 : d' = { e with h := e.h.setPc (Fb.u32 (e.here + 4)) } := by rw [HD.out, hfin]; unfold RunD.fin; rw [if_pos ⟨HI.out.2.2.2.1, hpos⟩]
        obtain ⟨np, hnp⟩ : ∃ np, np = (e.here + 4) % 4294967296 := ⟨_, rfl⟩
        have hunp : U32 np := by rw [hnp]; exact u32_ok _
        have HS := lI (fun n => by
          have H2 := r8_setHart (h5.below (w' := wr.drewN n) (below_drewN br _)) 32 om (.int .u32 np) (e.h.setPc np) (hlist_setPc h5.wf.h.len np) { h5.wf.h with pc := hunp }
          exact And.intro H2.1 ((HI.out.2.1.trans (G8.below (below_drewN (Below.refl _ wr) n) h5.clt)).trans H2.2))
        have HE : Hid (d' = { e with h := e.h.setPc np }) := lI (by rw [he2, hnp]; rfl)
        have HNP := lI hnp
        clear hfin hds hpos he2 hnp hunp h5 k4 k10 HO HFAR HMAY HOK HC
        go_upto_region 7 with (fail)
        go_region
        all_goals
          rw [← HNP.out]
          go_wp2_with fail
          go_end0
          first
            | exact ⟨rfl, us, by rw [HE.out]; exact (HS.out 1).1, (HS.out 1).2⟩
            | exact ⟨rfl, ⟨us, by rw [HE.out]; exact (HS.out 1).1⟩, (HS.out 1).2⟩
      · have hp1 : decide (0 < ds) = false := by rw [hds]; exact decide_eq_false hpos
        have hp2 : ¬ 0 < ds := by rw [hds]; exact hpos
        have HE : Hid (d' = e) := lI (by rw [HD.out, hfin]; unfold RunD.fin; rw [if_neg (fun x => hpos x.2)])
        clear hfin hds hpos h5 k4 k10
        go_wp2_with fail
        go_end0
        first
          | exact ⟨rfl, us, by rw [HE.out]; exact HI.out.1, HI.out.2.1⟩
          | exact ⟨rfl, ⟨us, by rw [HE.out]; exact HI.out.1⟩, HI.out.2.1⟩
end
end Go.Proofs.Ytlfnddmncbkjaac.W
