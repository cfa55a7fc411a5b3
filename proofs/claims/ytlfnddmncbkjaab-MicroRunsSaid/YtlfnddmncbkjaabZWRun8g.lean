/- micro.Run, walked. -/
import Derived.Test.YtlfnddmncbkjaabZZL
import Derived.Test.YtlfnddmncbkjaabZZI
import Derived.Test.YtlfnddmncbkjaabZWWrong7
import Derived.Test.YtlfnddmncbkjaabZZE
import Derived.Test.YtlfnddmncbkjaabZWMay
namespace Go.Proofs.Ytlfnddmncbkjaab.Fb
set_option linter.unusedVariables false
set_option linter.unusedSimpArgs false
open Go.RowKit
theorem wrong7_no {code : List MicD} {h : Hart} {m : List Int} {steps : Int} (e : wrong7 code h m steps = false) : mayL code = true ∧ h.ok = true ∧ h.state = 0 ∧ m.length ≤ 4096 ∧ 0 ≤ steps ∧ steps ≤ 400 := by
  unfold wrong7 at e
  simp only [Bool.or_eq_false_iff, Bool.not_eq_false', bne_eq_false_iff_eq, decide_eq_false_iff_not] at e
  obtain ⟨⟨⟨⟨⟨e1, e2⟩, e3⟩, e4⟩, e5⟩, e6⟩ := e
  exact ⟨e1, e2, e3, by omega, by omega, by omega⟩
/-- a run that has not begun -/
def run00 (h : Hart) (m : List Int) (bf bt : Int) : RunD := { run0 h m bf bt with here := 0 }
theorem run00_begin (h : Hart) (m : List Int) (bf bt : Int) : (run00 h m bf bt).begin = run0 h m bf bt := rfl
section
variable {rp cp hb : Nat} {vm : Value} {TU TS TR : TypeId} {w w' : World} {d : RunD} {vs : Value} {steps fr tw : Int}
/-- the runner's box is laid -/
theorem R8.init {h : Hart} {m : List Int} {bf bt : Int} (hc : CoreAt cp hb 0 vm TU w ⟨h, m, [], 0, 0⟩) (wf : h.Wf) (hb' : Bytes m) (hl : m.length ≤ 4096) (h1 : U32 bf) (h2 : U32 bt) (hw : w' = w.alloc (.cells (r8list (run00 h m bf bt) cp (.slice none 0 0) steps).toArray TR)) :
    R8 w.heap.size cp hb vm TU TS TR w' (run00 h m bf bt) (.slice none 0 0) steps 0 0 := by
  have hB : Below w.heap.size w w' := by rw [hw]; exact Below.alloc (Below.refl _ _) (Nat.le_refl _) _
  refine ⟨{ run0_wf wf hb' (by omega) h1 h2 with here := u32_0 }, by show ([] : List Int).length ≤ _; simp, hl, u32_0, u32_0, hc.below hB, hc.lt, by rw [hw]; exact at_alloc w _ TR (0, 0), fun o => ?_, ⟨_, _, by rw [hw]; exact heap_alloc_new _ _⟩, World.ownsRow_nil _ _ _ _⟩
  rw [hw]; unfold World.frozen?; rw [heap_alloc_new]; simp
end
theorem wpQuiet_build {P : Program} {ops : Array Oper} {C : World → Prop} {Q : Act → Prop} {a : Act} {o : Oper} {rest : List Oper} (hgd : o.guard = none) (t : TypeId) (ps : Array (Nat × Operand)) (ho : o.op = .build t ps) (vs : Array (Nat × Value)) (hv : (ps.map fun (i, x) => (i, a.eval x)) = vs)
    (v : Value) (hr : ∀ w, (Instr.build t vs).run P w = .ok v w) (h : wpQuiet P ops C Q rest (a.put o.dst v)) : wpQuiet P ops C Q (o :: rest) a :=
  wpQuiet_val hgd v (fun w hw => by
    unfold Oper.quietAt execOp
    simp only [ho, hv, Sem.run_bind, hr, Result.andThen_ok]
    exact ⟨rfl, rfl⟩) h
end Go.Proofs.Ytlfnddmncbkjaab.Fb
namespace Go.Proofs.Ytlfnddmncbkjaab.W
open Go.RowKit Fb
theorem build_did8 (h : Hart) (wf : h.regs.length = 32) (a1 : Option Addr) (n1 c1 : Nat) (a2 : Option Addr) (n2 c2 : Nat) (st : Int) (a3 : Option Addr) (n3 c3 : Nat) (w : World) : (Instr.build 64 #[(0, .agg (hlist h).toArray), (1, .slice a1 n1 c1), (2, .slice a2 n2 c2), (3, .int .i64 st), (4, .slice a3 n3 c3)]).run Try.prog w = .ok (.agg (hlist h ++ ([.slice a1 n1 c1, .slice a2 n2 c2, .int .i64 st, .slice a3 n3 c3] : List Value)).toArray) w := by
  obtain ⟨regs, pc, held, heldAt, state, cause⟩ := h
  obtain ⟨a0, a1, a2, a3, a4, a5, a6, a7, a8, a9, a10, a11, a12, a13, a14, a15, a16, a17, a18, a19, a20, a21, a22, a23, a24, a25, a26, a27, a28, a29, a30, a31, rfl⟩ := list32 wf
  kernel_rfl
set_option maxRecDepth 100000 in
set_option maxHeartbeats 1600000 in
theorem run8_yes (vc : Value) (code : List MicD) (h : Hart) (vm : Value) (m : List Int) (bf bt steps : Int) (w : World) (hc : Sl w vc 5 code.length (code.flatMap mlist)) (hok : ∀ x ∈ code, x.Ok) (wf : h.Wf) (hm : Ints .u8 w vm m) (hb : Bytes m) (h1 : U32 bf) (h2 : U32 bt) (hwr : wrong7 code h m steps = false) :
    Calls Try.prog 37 #[vc, .agg (hcells h), vm, .agg #[.int .u32 bf, .int .u32 bt], .int .i64 steps] w fun e w' => (∃ vm' vo' vs', e = .returned (.tuple #[.agg (didl (playR code h m bf bt steps) vm' vo' vs').toArray, .bool true]) ∧ Ints .u8 w' vm' (playR code h m bf bt steps).m ∧ Ints .u32 w' vo' (playR code h m bf bt steps).out ∧ Sl w' vs' 2 (playR code h m bf bt steps).stores.length ((playR code h m bf bt steps).stores.flatMap rg) ∧ (playR code h m bf bt steps).h.Wf ∧ Bytes (playR code h m bf bt steps).m) ∧ Below w.heap.size w w' := by
  obtain ⟨hmay, hok', hst, hml, hs0, hs1⟩ := wrong7_no hwr
  obtain ⟨ac, cc, rfl, hcc, hcm, -, ho⟩ := hc.open (fun _ _ => rfl) (by omega)
  obtain ⟨am, cm, rfl, hmm1, hmm2, -⟩ := hm.open
  obtain ⟨w1, hw1⟩ : ∃ w1, w1 = ((w.alloc (.cells (hcells h) 57)).alloc (.cells #[.int .u32 bf, .int .u32 bt] 60)).alloc (.cells (didl0 hart0 (.slice none 0 0)).toArray 64) := ⟨_, rfl⟩
  have hb1 : Below w.heap.size w w1 := by rw [hw1]; exact (by repeat (first | with_reducible exact Below.refl _ _ | with_reducible refine below_drewN ?_ _ | ((with_reducible refine Below.setCell ?_ ?hq _); case hq => (first | (simp; done) | (simp; omega))) | ((with_reducible refine Below.alloc ?_ ?hq _); case hq => (first | (simp; done) | (simp; omega)))))
  have hs1' : w1.heap.size = w.heap.size + 3 := by rw [hw1]; simp
  have hat : At w1 w.heap.size 0 (hlist h) := by rw [hw1]; exact At.below (w := w.alloc (.cells (hcells h) 57)) (at_alloc w (hlist h) 57 (0, 0)) (by repeat (first | with_reducible exact Below.refl _ _ | with_reducible refine below_drewN ?_ _ | ((with_reducible refine Below.setCell ?_ ?hq _); case hq => (first | (simp; done) | (simp; omega))) | ((with_reducible refine Below.alloc ?_ ?hq _); case hq => (first | (simp; done) | (simp; omega)))))
  have hH : w1.heap[w.heap.size]? = some (.cells (hcells h) 57 (0, 0)) := by
    rw [hw1]
    exact (heap_alloc_old _ _ (by simp; omega)).trans ((heap_alloc_old _ _ (by simp)).trans (heap_alloc_new _ _))
  have q0 : w1.cell? ⟨w.heap.size + 1, 0, none⟩ = some (.int .u32 bf) := by rw [hw1]; go_cell
  have q1 : w1.cell? ⟨w.heap.size + 1, 1, none⟩ = some (.int .u32 bt) := by rw [hw1]; go_cell
  have hZ : w1.heap[w.heap.size + 1 + 1]? = some (.cells (didl0 hart0 (.slice none 0 0)).toArray 64 (0, 0)) := by
    have := heap_alloc_new ((w.alloc (.cells (hcells h) 57)).alloc (.cells #[.int .u32 bf, .int .u32 bt] 60)) (.cells (didl0 hart0 (.slice none 0 0)).toArray 64)
    rw [World.size_alloc, World.size_alloc] at this
    rw [hw1]; exact this
  have hcsz : (Try.prog.info? 57).map (·.size) = some (hcells h).size := by rw [hcells_size wf]; kernel_rfl
  have HMA := Lib.hid (mmay_any (.slice ac code.length cc) code w1 (Sl.below hc hb1) hok)
  have HMH := Lib.hid (fun W => may_any h wf W)
  have h35 := hat.get (hlist_state wf)
  rw [hmay] at HMA
  rw [hok'] at HMH
  rw [hst] at h35
  simp only [Nat.zero_add] at h35
  have HC1 := Lib.hid (Sl.below hc hb1)
  have HM1 := Lib.hid (hm.below hb1)
  have HO := Lib.hid ho
  have HOK := Lib.hid hok
  have HWF := Lib.hid wf
  have HBY := Lib.hid hb
  have HMAY := Lib.hid hmay
  have HW1 := Lib.hid hw1
  have HB1 := Lib.hid hb1
  have HZ := Lib.hid hZ
  have HH := Lib.hid hH
  have ls0 : w.heap.size < w1.heap.size := by omega
  have ls1 : w.heap.size + 1 < w1.heap.size := by omega
  obtain ⟨pl, hpl⟩ : ∃ pl, pl = playR code h m bf bt steps := ⟨_, rfl⟩
  rw [← hpl]
  have HPL := Lib.hid hpl
  clear hc hm ho hok wf hb hmay hok' hst hw1 hb1 hZ hH hwr hpl
  go_enter Try.func37, Try.ntmps37
  go_upto_region 1 with (fail)
  show Code.wp _ _ _ _ (((w.alloc (.cells (hcells h) 57)).alloc (.cells #[.int .u32 bf, .int .u32 bt] 60)).alloc (.cells (didl0 hart0 (.slice none 0 0)).toArray 64))
  rw [← HW1.out]
  go_wp2_with fail
  refine HMA.out.mono ?_
  rintro e w2 ⟨rfl, hb2⟩
  have hat2 := hat.below hb2
  have s35 := (hb2.cell (p := ⟨w.heap.size, 35, none⟩) ls0).trans h35
  have l2 : w.heap.size < w2.heap.size := lt_of_cell s35
  have r0 := (hb2.cell (p := ⟨w.heap.size + 1, 0, none⟩) ls1).trans q0
  have r1 := (hb2.cell (p := ⟨w.heap.size + 1, 1, none⟩) ls1).trans q1
  have HB2 := Lib.hid hb2
  clear hat h35 q0 q1 hb2
  go_wp2_with (first | (refine wpList_load_g (by rfl) 57 _ rfl w.heap.size 0 rfl (hcells h) _ hat2 Try.underlying57 rfl hcsz ?_))
  refine (HMH.out _).mono ?_
  rintro e w3 ⟨rfl, hb3⟩
  have t35 := (hb3.cell (p := ⟨w.heap.size, 35, none⟩) l2).trans s35
  have l3 : w.heap.size < w3.heap.size := lt_of_cell t35
  have u0 := (hb3.cell (p := ⟨w.heap.size + 1, 0, none⟩) (lt_of_cell r0)).trans r0
  have u1 := (hb3.cell (p := ⟨w.heap.size + 1, 1, none⟩) (lt_of_cell r1)).trans r1
  have HB3 : Hid (Below w1.heap.size w1 w3) := Lib.hid (HB2.out.trans (hb3.mono HB2.out.size))
  have HCL := Lib.hid (clone_bytes (.slice am m.length cm) m.length (m.map (Value.int .u8)) w3 (Sl.below HM1.out HB3.out) (by intro u hu; obtain ⟨a, _, rfl⟩ := List.mem_map.1 hu; rfl) (by omega))
  clear hat2 s35 r0 r1 hb3
  go_wp2_with fail
  refine HCL.out.mono ?_
  rintro e w4 ⟨⟨vm, rfl, hown, _⟩, hb4⟩
  have HB4 : Hid (Below w1.heap.size w1 w4) := Lib.hid (HB3.out.trans (hb4.mono HB3.out.size))
  have hs4 := HB4.out.size
  have x0 := (hb4.cell (p := ⟨w.heap.size + 1, 0, none⟩) (lt_of_cell u0)).trans u0
  have x1 := (hb4.cell (p := ⟨w.heap.size + 1, 1, none⟩) (lt_of_cell u1)).trans u1
  have HH4 := Lib.hid ((HB4.out.block w.heap.size ls0).trans HH.out)
  have HZ4 := Lib.hid ((HB4.out.block (w.heap.size + 1 + 1) (by omega)).trans HZ.out)
  have hmem := owns_mem hown (hb := w.heap.size) (by have := HB3.out.size; omega)
  have HC := Lib.hid (CoreAt.init (w := w4) (hb := w.heap.size) (ho := 0) (vm := vm) (ty := 34) (tC := 149) (h := h) (l := m) (fun j hj => by simp [World.cell?, HH4.out, hcells]) (fun o => by simp [World.frozen?, HH4.out]) (by omega) (owns_sl hown) hmem.1 hmem.2)
  have HVL : Hid (∀ k, vm.ownBlock = some k → w1.heap.size ≤ k) := Lib.hid (fun k e => Nat.le_trans HB3.out.size (hown.lt k e).1)
  obtain ⟨w5, hw5⟩ : ∃ w5, w5 = w4.alloc (.cells #[.pointer (some ⟨w.heap.size, 0, none⟩), vm, .slice none 0 0, .int .u32 0, .int .u32 0] 149) := ⟨_, rfl⟩
  rw [← hw5] at HC
  have hb5 : Below w4.heap.size w4 w5 := by rw [hw5]; exact (by repeat (first | with_reducible exact Below.refl _ _ | with_reducible refine below_drewN ?_ _ | ((with_reducible refine Below.setCell ?_ ?hq _); case hq => (first | (simp; done) | (simp; omega))) | ((with_reducible refine Below.alloc ?_ ?hq _); case hq => (first | (simp; done) | (simp; omega)))))
  have hs5 : w5.heap.size = w4.heap.size + 1 := by rw [hw5]; simp
  have y0 := (hb5.cell (p := ⟨w.heap.size + 1, 0, none⟩) (lt_of_cell x0)).trans x0
  have y1 := (hb5.cell (p := ⟨w.heap.size + 1, 1, none⟩) (lt_of_cell x1)).trans x1
  obtain ⟨rl, hrl⟩ : ∃ rl, rl = (r8list (run00 h m bf bt) w4.heap.size (.slice none 0 0) steps).toArray := ⟨_, rfl⟩
  have hrl' : rl = #[.pointer (some ⟨w4.heap.size, 0, none⟩), .int .u32 bf, .int .u32 bt, .int .i64 steps, .int .i64 0, .slice none 0 0, .int .u32 0, .int .u32 0, .int .u32 0, .int .u32 0, .int .u32 0, .bool false] := by
    rw [hrl]; simp [r8list, run00, run0]
  obtain ⟨w6, hw6⟩ : ∃ w6, w6 = w5.alloc (.cells rl 152) := ⟨_, rfl⟩
  have HR6 : Hid (R8 (w4.heap.size + 1) w4.heap.size w.heap.size vm 34 60 152 w6 (run00 h m bf bt) (.slice none 0 0) steps 0 0) := Lib.hid (by
    have := R8.init (TS := 60) (TR := 152) (steps := steps) HC.out HWF.out HBY.out hml h1 h2 (show w6 = _ by rw [hw6, hrl])
    rw [hs5] at this
    exact this)
  have HB6 : Hid (Below w1.heap.size w1 w6) := Lib.hid (by rw [hw6]; exact (HB4.out.trans (hb5.mono (by omega))).trans (Below.alloc (Below.refl _ _) (by omega) _))
  have hs6 : w6.heap.size = w5.heap.size + 1 := by rw [hw6]; simp
  obtain ⟨avm, cvm, rfl⟩ := owns_slice hown
  have HW5 := Lib.hid hw5
  have HW6 := Lib.hid hw6
  have HRL := Lib.hid hrl'
  clear hw5 hw6 hrl hrl' hown hmem hb4 hb5 t35 u0 u1 x0 x1
  go_upto_region 4 with (fail)
  rw [← HW5.out]
  go_upto_region 5 with (fail)
  rw [← HRL.out, ← HW6.out]
  have HFAR : ∀ b off n c, (Value.slice ac code.length cc) = .slice (some ⟨b, off, none⟩) n c → code ≠ [] → b < w6.heap.size ∧ b ≠ w.heap.size ∧ (Value.slice avm m.length cvm).ownBlock ≠ some b ∧ (b < w4.heap.size ∨ (w4.heap.size < b ∧ b < w4.heap.size + 1 ∧ ∀ cs f, w6.heap[b]? ≠ some (.cells cs 34 f))) := fun b off n c e hne => by
    obtain ⟨b', off', e2, hbl, -⟩ := HO.out hne
    injection e with e3
    rw [e2] at e3
    injection e3 with e4
    injection e4 with e5
    subst e5
    exact ⟨by omega, by omega, fun e => by have := HVL.out _ e; omega, .inl (by omega)⟩
  have HDO := Lib.hid (do8_any HR6.out (.slice ac code.length cc) code (HC1.out.below HB6.out) HFAR HMAY.out HOK.out ⟨by omega, by omega⟩ ⟨Int.le_refl 0, by show (0 : Int) ≤ 50000; omega⟩ (by show 0 ≤ steps - 0; omega) (Nat.zero_le _) (Nat.zero_le _) rfl pl (by rw [HPL.out, run00_begin]; rfl))
  clear HFAR y0 y1
  go_wp2_with fail
  refine HDO.out.mono ?_
  rintro e w7 ⟨rfl, vs', h7, g7⟩
  have HB7 : Hid (Below w.heap.size w w7) := Lib.hid ⟨g7.os.trans ((HB1.out.trans (HB6.out.mono HB1.out.size)).os), g7.tape.trans ((HB1.out.trans (HB6.out.mono HB1.out.size)).tape), g7.output.trans ((HB1.out.trans (HB6.out.mono HB1.out.size)).output), Nat.le_trans (HB1.out.trans (HB6.out.mono HB1.out.size)).size g7.size, fun k hk => (g7.block k (by omega) (by omega) (fun e => by have := HVL.out _ e; omega) (.inl (by omega))).trans ((HB1.out.trans (HB6.out.mono HB1.out.size)).block k hk)⟩
  have hz7 : w7.heap[w.heap.size + 1 + 1]? = some (.cells (didl0 hart0 (.slice none 0 0)).toArray 64 (0, 0)) := (g7.block (w.heap.size + 1 + 1) (by omega) (by omega) (fun e => by have := HVL.out _ e; omega) (.inl (by omega))).trans ((HB6.out.block (w.heap.size + 1 + 1) (by omega)).trans HZ.out)
  have hat7 : At w7 w.heap.size 0 (hlist pl.h) := h7.core.hart
  have HWD := Lib.hid (And.intro h7.wf.h h7.wf.m)
  have wfd := h7.wf.h
  have m7 : w7.cell? ⟨w4.heap.size, 1, none⟩ = some (.slice avm m.length cvm) := h7.core.mem
  obtain ⟨vo, o7, orow⟩ := h7.core.row
  have k4 := h7.at_.get (r8_head 4 (by omega))
  have k5 := h7.at_.get (r8_head 5 (by omega))
  simp only [Nat.zero_add] at k4 k5
  obtain ⟨stp, hstp⟩ : ∃ s, s = pl.steps := ⟨_, rfl⟩
  have k4' : w7.cell? ⟨w4.heap.size + 1, 4, none⟩ = some (.int .i64 stp) := by rw [hstp]; exact k4
  have k5' : w7.cell? ⟨w4.heap.size + 1, 5, none⟩ = some vs' := k5
  obtain ⟨ao', co', rfl⟩ := owns_slice orow
  obtain ⟨as', cs', rfl⟩ := owns_slice h7.sto
  have hmlen : pl.m.length = m.length := by
    obtain ⟨_, _, e, -⟩ := h7.core.bytes.open
    injection e with _ e2
    exact e2.symm
  have hd41 : (didl pl (.slice avm m.length cvm) (.slice ao' (pl.core 0 0).out.length co') (.slice as' pl.stores.length cs')).toArray.size = 41 := by simp [didl, hlist_len wfd.len]
  have hsz41 : (Try.prog.info? 64).map (·.size) = some (didl pl (.slice avm m.length cvm) (.slice ao' (pl.core 0 0).out.length co') (.slice as' pl.stores.length cs')).toArray.size := by rw [hd41]; kernel_rfl
  have ht : w7.there (w.heap.size + 1 + 1) 0 (didl pl (.slice avm m.length cvm) (.slice ao' (pl.core 0 0).out.length co') (.slice as' pl.stores.length cs')).toArray.size := by rw [hd41]; exact there_blk hz7 (by decide)
  have HT := Lib.hid ht
  have HLD := Lib.hid (fun nd => load_setCells (P := Try.prog) (w := w7.drewN nd) ht Try.underlying64 rfl hsz41)
  have HALL : Hid ((didl pl (.slice avm m.length cvm) (.slice ao' (pl.core 0 0).out.length co') (.slice as' pl.stores.length cs')).toArray.all (·.oneCell') = true) := Lib.hid (by
    rw [Array.all_eq_true']
    intro v hv
    have hv' : v ∈ didl pl (.slice avm m.length cvm) (.slice ao' (pl.core 0 0).out.length co') (.slice as' pl.stores.length cs') := by simpa using hv
    rcases List.mem_append.1 hv' with h1 | h1
    · exact hlist_one pl.h v (by simpa [hcells] using h1)
    · simp only [List.mem_cons, List.not_mem_nil, or_false] at h1
      rcases h1 with rfl | rfl | rfl | rfl <;> rfl)
  have HBD := Lib.hid (fun W => build_did8 pl.h wfd.len avm m.length cvm ao' (pl.core 0 0).out.length co' stp as' pl.stores.length cs' W)
  have hde : (hlist pl.h ++ ([.slice avm m.length cvm, .slice ao' (pl.core 0 0).out.length co', .int .i64 stp, .slice as' pl.stores.length cs'] : List Value)).toArray = (didl pl (.slice avm m.length cvm) (.slice ao' (pl.core 0 0).out.length co') (.slice as' pl.stores.length cs')).toArray := by rw [hstp]; rfl
  rw [hde] at HBD
  have hszh : (Try.prog.info? 57).map (·.size) = some (hlist pl.h).toArray.size := by rw [show (hlist pl.h).toArray.size = 37 by simp [hlist_len wfd.len]]; kernel_rfl
  have HSH : Hid (∀ nd us, Ints .u8 ((w7.drewN nd).setCells (w.heap.size + 1 + 1) 0 us) (.slice avm m.length cvm) pl.m ∧ Ints .u32 ((w7.drewN nd).setCells (w.heap.size + 1 + 1) 0 us) (.slice ao' (pl.core 0 0).out.length co') pl.out ∧ Sl ((w7.drewN nd).setCells (w.heap.size + 1 + 1) 0 us) (.slice as' pl.stores.length cs') 2 pl.stores.length (pl.stores.flatMap rg)) := Lib.hid (fun nd us => by
    have hB : Below w7.heap.size w7 (w7.drewN nd) := below_drewN (Below.refl _ _) _
    refine ⟨?_, ?_, ?_⟩
    · exact sl_setCells (fun b' off n c e => by have := HVL.out b' (by rw [e]; rfl); omega) _ _ _ (h7.core.bytes.below hB)
    · exact sl_setCells (fun b' off n c e => by have := (orow.lt b' (by rw [e]; rfl)).1; omega) _ _ _ ((owns_sl orow).below hB)
    · exact sl_setCells (fun b' off n c e => by have := (h7.sto.lt b' (by rw [e]; rfl)).1; omega) _ _ _ ((owns_sl h7.sto).below hB))
  obtain ⟨dl, hdl⟩ : ∃ dl, dl = (didl pl (.slice avm m.length cvm) (.slice ao' (pl.core 0 0).out.length co') (.slice as' pl.stores.length cs')).toArray := ⟨_, rfl⟩
  rw [← hdl] at HT HLD HALL HBD hsz41
  have HDL := Lib.hid hdl
  clear h7 g7 hz7 k4 k5 hstp hmlen hd41 ht hde hdl orow
  go_upto_region 6 with (fail)
  refine region_quiet_tail (fun W => ∃ nd, W = w7.drewN nd) 18 (by kernel_rfl) (by kernel_rfl) ⟨1, rfl⟩ ?_
  simp only [List.take_succ_cons, List.take_zero, List.drop_succ_cons, List.drop_zero]
  refine wpQuiet_load_at rfl 57 _ rfl w.heap.size 0 rfl (hlist pl.h).toArray _ (fun W ⟨nd, e⟩ => by subst e; exact (by simpa using hat7 : At w7 w.heap.size 0 (hlist pl.h).toArray.toList)) Try.underlying57 rfl hszh ?_
  iterate 16 quiet_step (fail)
  refine wpQuiet_build rfl 64 _ rfl #[(0, .agg (hlist pl.h).toArray), (1, .slice avm m.length cvm), (2, .slice ao' (pl.core 0 0).out.length co'), (3, .int .i64 stp), (4, .slice as' pl.stores.length cs')] (by first | rfl | (simp [Act.eval]; done)) (.agg dl) HBD.out ?_
  refine wpQuiet_nil ?_
  rintro _ ⟨nd, rfl⟩
  simp only [Act.put, List.setIfInBounds_toArray, List.set_cons_zero, List.set_cons_succ]
  refine wpList_store_mid rfl 64 _ _ rfl (w.heap.size + 1 + 1) 0 dl rfl rfl HT.out hsz41 HALL.out ?_
  go_wp2_with fail
  refine bodyPost_ret (results_c1t (by rfl) _ (by rfl) (HLD.out nd)) rfl ⟨⟨_, _, _, by rw [HDL.out]; rfl, (HSH.out nd _).1, (HSH.out nd _).2.1, (HSH.out nd _).2.2, HWD.out.1, HWD.out.2⟩, below_setCells (by omega) _ _ _ (below_drewN HB7.out nd)⟩
end Go.Proofs.Ytlfnddmncbkjaab.W
