import Derived.Test.YtlfnddmncbkjaabZZK
import Derived.Test.YtlfnddmncbkjaabZZH
import Derived.Test.YtlfnddmncbkjaabZMB
import Derived.Test.YtlfnddmncbkjaabZFbRun7d
set_option linter.unusedVariables false
set_option linter.unusedSimpArgs false
set_option maxRecDepth 100000
set_option maxHeartbeats 4000000
namespace Go.Proofs.Ytlfnddmncbkjaab.W
open Go.RowKit Fb
theorem build_did7 (h : Hart) (wf : h.regs.length = 32) (ao : Option Addr) (n cap : Nat) (w : World) : (Instr.build 64 #[(0, .agg (hcells h)), (1, .slice ao n cap)]).run Try.prog w = .ok (.agg (didl0 h (.slice ao n cap)).toArray) w := by
  obtain ⟨regs, pc, held, heldAt, state, cause⟩ := h
  obtain ⟨a0, a1, a2, a3, a4, a5, a6, a7, a8, a9, a10, a11, a12, a13, a14, a15, a16, a17, a18, a19, a20, a21, a22, a23, a24, a25, a26, a27, a28, a29, a30, a31, rfl⟩ := list32 wf
  kernel_rfl
theorem build_run7 (h : Hart) (wf : h.regs.length = 32) (m : List Int) (bf bt : Int) (ao : Option Addr) (n cap : Nat) (w : World) : (Instr.build 139 #[(0, .agg (didl0 h (.slice ao n cap)).toArray), (2, .int .u32 h.pc), (5, .agg #[.int .u32 bf, .int .u32 bt])]).run Try.prog w = .ok (.agg (r7list (run0 h m bf bt) (.slice ao n cap) (.slice none 0 0) (.slice none 0 0)).toArray) w := by
  obtain ⟨regs, pc, held, heldAt, state, cause⟩ := h
  obtain ⟨a0, a1, a2, a3, a4, a5, a6, a7, a8, a9, a10, a11, a12, a13, a14, a15, a16, a17, a18, a19, a20, a21, a22, a23, a24, a25, a26, a27, a28, a29, a30, a31, rfl⟩ := list32 wf
  kernel_rfl
theorem play7_any (vc : Value) (code : List MicD) (h : Hart) (vm : Value) (m : List Int) (bf bt steps : Int) (w : World) (hc : Sl w vc 5 code.length (code.flatMap mlist)) (hmay : mayL code = true) (hok : ∀ x ∈ code, x.Ok) (wf : h.Wf) (hm : Ints .u8 w vm m) (hb : Bytes m) (hl : m.length ≤ 140737488351232) (h1 : U32 bf) (h2 : U32 bt) (hst : i64ok steps) :
    Calls Try.prog 33 #[vc, .agg (hcells h), vm, .agg #[.int .u32 bf, .int .u32 bt], .int .i64 steps] w fun e w' => (∃ vm' vo' vs', e = .returned (.agg (didl (playR code h m bf bt steps) vm' vo' vs').toArray) ∧ Ints .u8 w' vm' (playR code h m bf bt steps).m ∧ Ints .u32 w' vo' (playR code h m bf bt steps).out ∧ Sl w' vs' 2 (playR code h m bf bt steps).stores.length ((playR code h m bf bt steps).stores.flatMap rg)) ∧ Below w.heap.size w w' := by
  obtain ⟨ac, cc, rfl, hcc, hcm, -, ho⟩ := hc.open (fun _ _ => rfl) (by omega)
  obtain ⟨am, cm, rfl, -⟩ := hm.open
  have HBD := Lib.hid (fun W => build_did7 h wf.len am m.length cm W)
  have HBR := Lib.hid (fun W => build_run7 h wf.len m bf bt am m.length cm W)
  have hcl : code.length ≤ 200 := by unfold mayL at hmay; rw [Bool.and_eq_true, decide_eq_true_eq] at hmay; exact hmay.1
  obtain ⟨d0, hd0⟩ : ∃ d0, d0 = run0 h m bf bt := ⟨_, rfl⟩
  unfold maxLen at hcm
  have HO := Lib.hid ho
  rw [← hd0] at HBR
  obtain ⟨dc, hdc⟩ : ∃ dc, dc = (didl0 h (.slice am m.length cm)).toArray := ⟨_, rfl⟩
  obtain ⟨rc, hrc⟩ : ∃ rc, rc = (r7list d0 (.slice am m.length cm) (.slice none 0 0) (.slice none 0 0)).toArray := ⟨_, rfl⟩
  rw [← hdc] at HBD HBR
  rw [← hrc] at HBR
  have hsz := hcells_size wf
  have hcsz : (Try.prog.info? 57).map (·.size) = some (hcells h).size := by rw [hsz]; kernel_rfl
  have HD0 := Lib.hid hd0
  have HRC := Lib.hid hrc
  have HC := Lib.hid hc
  have HM := Lib.hid hm
  have HWF := Lib.hid wf
  have HMAY := Lib.hid hmay
  have HOK := Lib.hid hok
  have HB := Lib.hid hb
  have hpc := hlist_pc wf
  clear ho hdc hrc hc hm hmay hok wf hb hd0
  go_enter Try.func33, Try.ntmps33
  go_upto_region 1 with (fail)
  show Code.wp _ _ _ _ (((w.alloc (.cells (hcells h) 57)).alloc (.cells #[.int .u32 bf, .int .u32 bt] 60)).alloc (.cells (didl0 hart0 (.slice none 0 0)).toArray 64))
  obtain ⟨w1, hw1⟩ : ∃ w1, w1 = ((w.alloc (.cells (hcells h) 57)).alloc (.cells #[.int .u32 bf, .int .u32 bt] 60)).alloc (.cells (didl0 hart0 (.slice none 0 0)).toArray 64) := ⟨_, rfl⟩
  have hb1 : Below w.heap.size w w1 := by rw [hw1]; exact Fb.blw
  have hs1 : w1.heap.size = w.heap.size + 3 := by rw [hw1]; simp
  have hbox : At w1 w.heap.size 0 (hlist h) := by rw [hw1]; exact At.below (w := w.alloc (.cells (hcells h) 57)) (at_alloc w (hlist h) 57 (0, 0)) Fb.blw
  have q0 : w1.cell? ⟨w.heap.size + 1, 0, none⟩ = some (.int .u32 bf) := by rw [hw1]; go_cell
  have q1 : w1.cell? ⟨w.heap.size + 1, 1, none⟩ = some (.int .u32 bt) := by rw [hw1]; go_cell
  have hZ : w1.heap[w.heap.size + 1 + 1]? = some (.cells (didl0 hart0 (.slice none 0 0)).toArray 64 (0, 0)) := by
    have := heap_alloc_new ((w.alloc (.cells (hcells h) 57)).alloc (.cells #[.int .u32 bf, .int .u32 bt] 60)) (.cells (didl0 hart0 (.slice none 0 0)).toArray 64)
    rw [World.size_alloc, World.size_alloc] at this
    rw [hw1]; exact this
  have hpc1 := hbox.get hpc
  simp only [Nat.zero_add] at hpc1
  have HW1 := Lib.hid hw1
  have HZ := Lib.hid hZ
  have HB1 := Lib.hid hb1
  rw [← HW1.out]
  clear hw1 hZ hb1 hpc
  obtain ⟨w2, hw2⟩ : ∃ w2, w2 = w1.alloc (.cells rc 139) := ⟨_, rfl⟩
  have hb2 : Below w1.heap.size w1 w2 := by rw [hw2]; exact Fb.blw
  have hs2 : w2.heap.size = w.heap.size + 4 := by rw [hw2]; simp; omega
  have HR2 : Hid (R7 (w.heap.size + 3) 34 60 w2 d0 (.slice am m.length cm) (.slice none 0 0) (.slice none 0 0)) := Lib.hid (by
    have hat : At w2 (w.heap.size + 3) 0 (r7list d0 (.slice am m.length cm) (.slice none 0 0) (.slice none 0 0)) := by rw [hw2, HRC.out, ← hs1]; exact at_alloc w1 _ _ _
    have hfz : ∀ o, w2.frozen? ⟨w.heap.size + 3, o, none⟩ = false := fun o => by rw [hw2, ← hs1]; unfold World.frozen?; rw [heap_alloc_new]; simp
    refine ⟨by rw [HD0.out]; exact run0_wf HWF.out HB.out hl h1 h2, hat, hfz, by rw [HD0.out]; exact ((HM.out.below HB1.out).below hb2), ?_, ?_, fun hn q e => ?_, fun q e => by cases e⟩
    · rw [HD0.out]; exact World.ownsRow_nil _ _ _ _
    · rw [HD0.out]; exact World.ownsRow_nil _ _ _ _
    · have hq := ints_lt HM.out (by rw [HD0.out] at hn; exact hn) e
      exact ⟨by omega, by omega, (by intro e; cases e), (by intro e; cases e)⟩)
  have HB2 : Hid (Below w.heap.size w w2) := Lib.hid (HB1.out.trans (hb2.mono (by omega)))
  have HZ2 := Lib.hid ((hb2.block (w.heap.size + 1 + 1) (by omega)).trans HZ.out)
  have HW2 := Lib.hid hw2
  clear hw2 hb2
  go_upto_region 2 with (first | (refine wpList_load_at rfl 57 _ rfl w.heap.size 0 rfl (hcells h) _ hbox Try.underlying57 rfl hcsz ?_) | (refine wpList_buildV rfl 64 _ rfl #[(0, .agg (hcells h)), (1, .slice am m.length cm)] (by first | rfl | (simp [Act.eval]; done)) _ (HBD.out _) ?_) | (refine wpList_buildV rfl 139 _ rfl #[(0, .agg dc), (2, .int .u32 h.pc), (5, .agg #[.int .u32 bf, .int .u32 bt])] (by first | rfl | (simp [Act.eval]; done)) _ (HBR.out _) ?_))
  rw [← HW2.out]
  have HG2 : Hid (G7 (w.heap.size + 3) w2 (.slice none 0 0) (.slice none 0 0) w2 (.slice none 0 0) (.slice none 0 0)) := Lib.hid G7.refl
  clear hbox q0 q1 hpc1
  go_upto_region 3 with (fail)
  go_wp2_with fail
  go_loopw [12] (fun i wr => ∃ k : Nat, i = .int .i64 k ∧ k ≤ code.length ∧ ∃ (d : RunD) (vm vo vs : Value), Hid (R7 (w.heap.size + 3) 34 60 wr d vm vo vs ∧ G7 (w.heap.size + 3) w2 (.slice none 0 0) (.slice none 0 0) wr vo vs ∧ runL steps (code.drop k) d = runL steps code d0 ∧ 0 ≤ d.steps ∧ d.steps ≤ (k : Int) ∧ d.stores.length ≤ k ∧ d.out.length ≤ k)) (fun i _ => code.length - (intOf i).toNat)
  case atStart => exact ⟨0, rfl, by omega, d0, _, _, _, Lib.hid ⟨HR2.out, HG2.out, by simp, by rw [HD0.out]; show (0 : Int) ≤ 0; omega, by rw [HD0.out]; show (0 : Int) ≤ 0; omega, by rw [HD0.out]; show (0 : Nat) ≤ 0; omega, by rw [HD0.out]; show (0 : Nat) ≤ 0; omega⟩⟩
  case round =>
    obtain ⟨k, rfl, hk, d, vm, vo, vs, HI⟩ := hrel
    have c47 := HI.out.1.at_.get (r7_end HI.out.1.wf.h.len HI.out.1.wf.tlen 2)
    simp only [Nat.zero_add, Nat.add_assoc, Nat.reduceAdd] at c47
    obtain ⟨ov, hov⟩ : ∃ ov, ov = d.over := ⟨_, rfl⟩
    have HOV := Lib.hid hov
    have c47' : wr.cell? ⟨w.heap.size + 3, 47, none⟩ = some (.bool ov) := by rw [hov]; exact c47
    clear c47 hov
    obtain ⟨B, hB⟩ : ∃ B : Bool, B = (decide (k < code.length) && !ov) := ⟨_, rfl⟩
    have HBB := Lib.hid hB
    clear hB
    go_upto_region 3 with (fail)
    go_cut [31] from 21 to 30 (fun s wx => s = .bool B ∧ wx = wr)
    case first =>
      by_cases hlt : k < code.length
      · have i1 : (k : Int) < (code.length : Int) := by omega
        go_wp2_with fail
        go_meet
        case rel => exact ⟨by rw [HBB.out, decide_eq_true hlt]; simp, rfl⟩
      · have i1 : ¬ (k : Int) < (code.length : Int) := by omega
        go_wp2_with fail
        go_meet
        case rel => exact ⟨by rw [HBB.out, decide_eq_false hlt]; rfl, rfl⟩
    case rest =>
      obtain ⟨rfl, hwc⟩ := hcut
      subst hwc
      cases B with
      | true =>
        have hlt : k < code.length := by have := HBB.out; simp at this; exact this.1
        have hov : d.over = false := by have := HBB.out; simp at this; rw [← HOV.out]; exact this.2
        obtain ⟨b, off, rfl, hbl, hel⟩ := HO.out (by intro e; rw [e] at hlt; simp at hlt)
        have hat := HI.out.2.1.keeps (At.of_lt (hel k hlt) HB2.out hbl) (show b ≠ w.heap.size + 3 by omega) (by intro e; cases e) (by intro e; cases e)
        have hmm : mayM code[k] = true := by
          have := HMAY.out
          unfold mayL at this
          rw [Bool.and_eq_true, List.all_eq_true] at this
          exact this.2 _ (List.getElem_mem hlt)
        have hmk := (HOK.out code[k] (List.getElem_mem hlt)).n
        have hrl : runL steps (code.drop k) d = runL steps (code.drop (k + 1)) (d.one code[k] steps) := by
          rw [List.drop_eq_getElem_cons hlt, runL, if_neg (by rw [hov]; simp)]
        have hnr := r7near_one d code[k] steps
        obtain ⟨mm, hmmd⟩ : ∃ mm, mm = code[k] := ⟨_, rfl⟩
        rw [← hmmd] at hat hmm hmk hrl hnr
        clear hmmd hel
        obtain ⟨op, kd, ka, kb, n⟩ := mm
        have HON := Lib.hid (one7_any HI.out.1 ⟨op, kd, ka, kb, n⟩ hmm hmk steps hst ⟨HI.out.2.2.2.1, by have := HI.out.2.2.2.2.1; omega⟩ (by have := HI.out.2.2.2.2.2.1; omega) (by have := HI.out.2.2.2.2.2.2; omega))
        have HON' : Hid (Calls Try.prog 80 #[.pointer (some ⟨w.heap.size + 3, 0, none⟩), .agg #[.int .i64 op, .int .i64 kd, .int .i64 ka, .int .i64 kb, .int .u32 n], .int .i64 steps] wc fun e w' => e = .returned (.tuple #[]) ∧ ∃ vm' vo' vs', R7 (w.heap.size + 3) 34 60 w' (d.one ⟨op, kd, ka, kb, n⟩ steps) vm' vo' vs' ∧ G7 (w.heap.size + 3) wc vo vs w' vo' vs') := Lib.hid HON.out
        have e0 := hat.get (j := 0) (v := .int .i64 op) rfl
        have e1 := hat.get (j := 1) (v := .int .i64 kd) rfl
        have e2 := hat.get (j := 2) (v := .int .i64 ka) rfl
        have e3 := hat.get (j := 3) (v := .int .i64 kb) rfl
        have e4 := hat.get (j := 4) (v := .int .u32 n) rfl
        simp only [Nat.add_zero] at e0 e1 e2 e3 e4
        have i0 : (0 : Int) ≤ (k : Int) := by omega
        have i1 : (k : Int) < (code.length : Int) := by omega
        have HNR := Lib.hid hnr
        have HRL := Lib.hid hrl
        clear HON hat hmm hmk hrl hnr hov c47'
        go_wp2_with fail
        refine HON'.out.mono ?_
        rintro e w9 ⟨rfl, vm', vo', vs', h9, g9⟩
        have HN9 : Hid (R7 (w.heap.size + 3) 34 60 w9 (d.one ⟨op, kd, ka, kb, n⟩ steps) vm' vo' vs' ∧ G7 (w.heap.size + 3) w2 (.slice none 0 0) (.slice none 0 0) w9 vo' vs' ∧ runL steps (code.drop (k + 1)) (d.one ⟨op, kd, ka, kb, n⟩ steps) = runL steps code d0 ∧ 0 ≤ (d.one ⟨op, kd, ka, kb, n⟩ steps).steps ∧ (d.one ⟨op, kd, ka, kb, n⟩ steps).steps ≤ ((k + 1 : Nat) : Int) ∧ (d.one ⟨op, kd, ka, kb, n⟩ steps).stores.length ≤ k + 1 ∧ (d.one ⟨op, kd, ka, kb, n⟩ steps).out.length ≤ k + 1) := Lib.hid ⟨h9, HI.out.2.1.trans g9, by rw [← HRL.out]; exact HI.out.2.2.1, by have := HNR.out.s0; have := HI.out.2.2.2.1; omega, by have := HNR.out.s1; have := HI.out.2.2.2.2.1; omega, by have := HNR.out.st; have := HI.out.2.2.2.2.2.1; omega, by have := HNR.out.ou; have := HI.out.2.2.2.2.2.2; omega⟩
        clear h9 g9 e0 e1 e2 e3 e4
        go_wp2_with fail
        go_roundw
        case rel => exact ⟨k + 1, by simp, by omega, _, _, _, _, HN9⟩
        case measure => simp [intOf]; omega
      | false =>
        have hfin : runL steps code d0 = d := by
          have h1 := HBB.out
          rw [← HI.out.2.2.1]
          by_cases hlt : k < code.length
          · have hov : d.over = true := by rw [← HOV.out]; rw [decide_eq_true hlt] at h1; simpa using h1
            exact runL_over hov
          · rw [List.drop_of_length_le (by omega)]; rfl
        have c39 := HI.out.1.at_.get ((r7_tail (vm := vm) (vo := vo) (vs := vs) HI.out.1.wf.h.len 2).trans (show (r7tail d vm vo vs)[2]? = some (.int .i64 d.steps) from rfl))
        have c45 := HI.out.1.at_.get (r7_end (vm := vm) (vo := vo) (vs := vs) HI.out.1.wf.h.len HI.out.1.wf.tlen 0)
        have c32 := HI.out.1.at_.get ((r7_hart (vm := vm) (vo := vo) (vs := vs) HI.out.1.wf.h.len (by omega)).trans (hlist_pc HI.out.1.wf.h))
        have f32 := HI.out.1.frz 32
        simp only [Nat.zero_add, Nat.add_assoc, Nat.reduceAdd] at c39 c45 c32
        obtain ⟨ds, hds⟩ : ∃ ds, ds = d.steps := ⟨_, rfl⟩
        have c39' : wc.cell? ⟨w.heap.size + 3, 39, none⟩ = some (.int .i64 ds) := by rw [hds]; exact c39
        clear c39
        cases ov with
        | true =>
          have HPL : Hid (playR code h m bf bt steps = d) := Lib.hid (by unfold playR; rw [← HD0.out, hfin]; unfold RunD.fin; rw [if_neg (by rw [← HOV.out]; simp)])
          have hbox := r7_didl (HI.out.1)
          have hsz41 : (Try.prog.info? 64).map (·.size) = some (didl (d) vm vo vs).toArray.size := by rw [didl_size (HI.out.1).wf.h.len]; kernel_rfl
          have hall := didl_all (HI.out.1)
          have hzz := ((HI.out.2.1).block (w.heap.size + 1 + 1) (by omega) (by omega) (by intro e; cases e) (by intro e; cases e)).trans HZ2.out
          have ht : (wc).there (w.heap.size + 1 + 1) 0 (didl (d) vm vo vs).toArray.size := by rw [didl_size (HI.out.1).wf.h.len]; exact there_blk hzz (by decide)
          have hld := load_setCells (P := Try.prog) ht Try.underlying64 rfl hsz41
          have HSH := Lib.hid (r7_shown (HI.out.1) (show w.heap.size + 1 + 1 < w.heap.size + 3 by omega) hzz (didl (d) vm vo vs).toArray.toList)
          have HBW := Lib.hid (below_setCells (b := w.heap.size + 1 + 1) (by omega) (didl (d) vm vo vs).toArray.toList 0 _ (g7_below HB2.out (by omega) (by omega) (HI.out.2.1)))
          clear hfin hds
          go_wp2_with (first | (refine wpList_load_at rfl 64 _ rfl (w.heap.size + 3) 0 rfl (didl (d) vm vo vs).toArray _ hbox Try.underlying64 rfl hsz41 ?_) | (refine wpList_store_mid rfl 64 _ _ rfl (w.heap.size + 1 + 1) 0 (didl (d) vm vo vs).toArray rfl rfl ht hsz41 hall ?_))
          refine bodyPost_ret (results_c1 (by rfl) _ (by rfl) hld) rfl ?_
          rw [HPL.out]
          exact ⟨⟨vm, vo, vs, rfl, HSH.out.1, HSH.out.2.1, HSH.out.2.2⟩, HBW.out⟩
        | false =>
          by_cases hpos : 0 < d.steps
          · have hp1 : decide (0 < ds) = true := by rw [hds]; exact decide_eq_true hpos
            have hp2 : 0 < ds := by rw [hds]; exact hpos
            have HPL : Hid (playR code h m bf bt steps = { d with h := d.h.setPc (Fb.u32 (d.here + 4)) }) := Lib.hid (by unfold playR; rw [← HD0.out, hfin]; unfold RunD.fin; rw [if_pos ⟨HOV.out.symm, hpos⟩])
            have HSU := Lib.hid (sum7_any d.here 4 wc HI.out.1.wf.here ⟨by omega, by omega⟩)
            obtain ⟨np, hnp⟩ : ∃ np, np = Fb.u32 (d.here + 4) := ⟨_, rfl⟩
            rw [← hnp] at HSU HPL
            have HNP : Hid (U32 np) := Lib.hid (by rw [hnp]; exact u32_ok _)
            clear hfin hds hnp hpos
            go_wp2_with fail
            refine HSU.out.mono ?_
            rintro e w5 ⟨rfl, nd, hw5⟩
            have hb5 : Below wc.heap.size wc w5 := by rw [hw5]; exact below_drewN (Below.refl _ _) nd
            have H5 := Lib.hid (HI.out.1.below hb5)
            have x32 := (hb5.cell (p := ⟨w.heap.size + 3, 32, none⟩) HI.out.1.lt).trans c32
            have y32 := (hb5.frozen (p := ⟨w.heap.size + 3, 32, none⟩) HI.out.1.lt).trans f32
            have H6 := Lib.hid (r7_setCell (d' := { d with h := d.h.setPc np }) H5.out 32 (by omega) (.int .u32 np) (r7_setHart H5.out.wf.h.len (by omega) (hlist_setPc H5.out.wf.h.len np)) rfl rfl rfl { H5.out.wf with h := { H5.out.wf.h with pc := HNP.out } })
            have HG6 := Lib.hid (HI.out.2.1.trans ((G7.below (vo := vo) (vs := vs) hb5).trans (G7.set (rp := w.heap.size + 3) 32 (.int .u32 np))))
            obtain ⟨w6, hw6⟩ : ∃ w6, w6 = w5.setCell ⟨w.heap.size + 3, 32, none⟩ (.int .u32 np) := ⟨_, rfl⟩
            rw [← hw6] at H6 HG6
            have HW6 := Lib.hid hw6
            have hs6 : w2.heap.size ≤ w6.heap.size := HG6.out.size
            clear hw5 hb5 hw6 c32 f32
            have hbox := r7_didl (H6.out)
            have hsz41 : (Try.prog.info? 64).map (·.size) = some (didl ({ d with h := d.h.setPc np }) vm vo vs).toArray.size := by rw [didl_size (H6.out).wf.h.len]; kernel_rfl
            have hall := didl_all (H6.out)
            have hzz := ((HG6.out).block (w.heap.size + 1 + 1) (by omega) (by omega) (by intro e; cases e) (by intro e; cases e)).trans HZ2.out
            have ht : (w6).there (w.heap.size + 1 + 1) 0 (didl ({ d with h := d.h.setPc np }) vm vo vs).toArray.size := by rw [didl_size (H6.out).wf.h.len]; exact there_blk hzz (by decide)
            have hld := load_setCells (P := Try.prog) ht Try.underlying64 rfl hsz41
            have HSH := Lib.hid (r7_shown (H6.out) (show w.heap.size + 1 + 1 < w.heap.size + 3 by omega) hzz (didl ({ d with h := d.h.setPc np }) vm vo vs).toArray.toList)
            have HBW := Lib.hid (below_setCells (b := w.heap.size + 1 + 1) (by omega) (didl ({ d with h := d.h.setPc np }) vm vo vs).toArray.toList 0 _ (g7_below HB2.out (by omega) (by omega) (HG6.out)))
            go_upto_region 8 with (fail)
            rw [← HW6.out]
            clear x32 y32
            go_wp2_with (first | (refine wpList_load_at rfl 64 _ rfl (w.heap.size + 3) 0 rfl (didl ({ d with h := d.h.setPc np }) vm vo vs).toArray _ hbox Try.underlying64 rfl hsz41 ?_) | (refine wpList_store_mid rfl 64 _ _ rfl (w.heap.size + 1 + 1) 0 (didl ({ d with h := d.h.setPc np }) vm vo vs).toArray rfl rfl ht hsz41 hall ?_))
            refine bodyPost_ret (results_c1 (by rfl) _ (by rfl) hld) rfl ?_
            rw [HPL.out]
            exact ⟨⟨vm, vo, vs, rfl, HSH.out.1, HSH.out.2.1, HSH.out.2.2⟩, HBW.out⟩
          · have hp1 : decide (0 < ds) = false := by rw [hds]; exact decide_eq_false hpos
            have HPL : Hid (playR code h m bf bt steps = d) := Lib.hid (by unfold playR; rw [← HD0.out, hfin]; unfold RunD.fin; rw [if_neg (fun e => hpos e.2)])
            have hbox := r7_didl (HI.out.1)
            have hsz41 : (Try.prog.info? 64).map (·.size) = some (didl (d) vm vo vs).toArray.size := by rw [didl_size (HI.out.1).wf.h.len]; kernel_rfl
            have hall := didl_all (HI.out.1)
            have hzz := ((HI.out.2.1).block (w.heap.size + 1 + 1) (by omega) (by omega) (by intro e; cases e) (by intro e; cases e)).trans HZ2.out
            have ht : (wc).there (w.heap.size + 1 + 1) 0 (didl (d) vm vo vs).toArray.size := by rw [didl_size (HI.out.1).wf.h.len]; exact there_blk hzz (by decide)
            have hld := load_setCells (P := Try.prog) ht Try.underlying64 rfl hsz41
            have HSH := Lib.hid (r7_shown (HI.out.1) (show w.heap.size + 1 + 1 < w.heap.size + 3 by omega) hzz (didl (d) vm vo vs).toArray.toList)
            have HBW := Lib.hid (below_setCells (b := w.heap.size + 1 + 1) (by omega) (didl (d) vm vo vs).toArray.toList 0 _ (g7_below HB2.out (by omega) (by omega) (HI.out.2.1)))
            clear hfin hds hpos
            go_wp2_with (first | (refine wpList_load_at rfl 64 _ rfl (w.heap.size + 3) 0 rfl (didl (d) vm vo vs).toArray _ hbox Try.underlying64 rfl hsz41 ?_) | (refine wpList_store_mid rfl 64 _ _ rfl (w.heap.size + 1 + 1) 0 (didl (d) vm vo vs).toArray rfl rfl ht hsz41 hall ?_))
            refine bodyPost_ret (results_c1 (by rfl) _ (by rfl) hld) rfl ?_
            rw [HPL.out]
            exact ⟨⟨vm, vo, vs, rfl, HSH.out.1, HSH.out.2.1, HSH.out.2.2⟩, HBW.out⟩
end Go.Proofs.Ytlfnddmncbkjaab.W
