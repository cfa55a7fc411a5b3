import Derived.Test.YtlfnddmncbkjaabZFbD8
import Derived.Test.YtlfnddmncbkjaabZWStep4
import Derived.Test.YtlfnddmncbkjaabZWRun7h
set_option linter.unusedVariables false
set_option linter.unusedSimpArgs false
set_option maxRecDepth 100000
set_option maxHeartbeats 4000000
namespace Go.Proofs.Ytlfnddmncbkjaab.W
open Go.RowKit Fb
theorem info_range88 : (Try.prog.info? 60).map (fun i => (i.zero, i.size, i.bytes)) = some (some (.agg #[.int .u32 0, .int .u32 0]), 2, 8) := by kernel_rfl
theorem info_u32s8 : (Try.prog.info? 34).map (fun i => (i.zero, i.size, i.bytes)) = some (some (.int .u32 0), 1, 4) := by kernel_rfl
theorem u32_one8 (l : List Int) : ∀ u ∈ l.map (Value.int .u32), u.oneCell' = true := by intro u hu; obtain ⟨a, _, rfl⟩ := List.mem_map.1 hu; rfl
structure Go8 (bf bt steps : Int) (n k : Nat) (X0 X : RunD) : Prop where
  left : loop8 bf bt steps (n - k) k X = loop8 bf bt steps n 0 X0
  ok : X.h.ok = true
  state : X.h.state = 0
  wf : X.h.Wf
  bytes : Bytes X.m
  ml : X.m.length ≤ 4096
  steps : X.steps = k
  out : X.out.length ≤ k
  stores : X.stores.length ≤ k
theorem steps8_any (vi : Value) (l : List InsD) (bpc : Int) (h : Hart) (vm : Value) (m : List Int) (steps : Int) (w : World) (hb : BlockAt w vi l) (hl16 : l.length ≤ 16) (hpc : U32 bpc) (wf : h.Wf) (hok : h.ok = true) (hst : h.state = 0) (hm : Ints .u8 w vm m) (hby : Bytes m) (hml : m.length ≤ 4096) (hs : i64ok steps) (dF : RunD) (hdF : dF = loop8 bpc (Fb.u32 (bpc + 4 * (l.length : Int))) steps l.length 0 (run0 h m bpc (Fb.u32 (bpc + 4 * (l.length : Int))))) :
    Calls Try.prog 34 #[.agg #[.int .u32 bpc, vi], .agg (hcells h), vm, .int .i64 steps] w fun e w' => (∃ vm' vo' vs', e = .returned (.agg (didl dF vm' vo' vs').toArray) ∧ Ints .u8 w' vm' dF.m ∧ Ints .u32 w' vo' dF.out ∧ Sl w' vs' 2 dF.stores.length (dF.stores.flatMap rg) ∧ dF.h.Wf ∧ Bytes dF.m) ∧ Below w.heap.size w w' := by
  obtain ⟨ai, ci, rfl, hci, hcm, -, -⟩ := hb.open (fun _ _ => rfl) (by omega)
  obtain ⟨am, cm, rfl, -⟩ := hm.open
  have HBD := Lib.hid (fun W => build_did7 h wf.len am m.length cm W)
  obtain ⟨bt, hbt⟩ : ∃ bt, bt = Fb.u32 (bpc + 4 * (l.length : Int)) := ⟨_, rfl⟩
  rw [← hbt] at hdF
  have HBT : Hid ((bpc + 4 * (l.length : Int)) % 4294967296 = bt) := Lib.hid (by rw [hbt]; rfl)
  have hut : U32 bt := by rw [hbt]; exact u32_ok _
  obtain ⟨X0, hX0⟩ : ∃ X0, X0 = run0 h m bpc bt := ⟨_, rfl⟩
  rw [← hX0] at hdF
  obtain ⟨dc, hdc⟩ : ∃ dc, dc = (didl0 h (.slice am m.length cm)).toArray := ⟨_, rfl⟩
  rw [← hdc] at HBD
  have hcsz : (Try.prog.info? 57).map (·.size) = some (hcells h).size := by rw [hcells_size wf]; kernel_rfl
  have hdcs : dc.size = 41 := by rw [hdc]; simp [didl0, hlist_len wf.len]
  have hdsz : (Try.prog.info? 64).map (·.size) = some dc.size := by rw [hdcs]; kernel_rfl
  have hdo : Hid (∀ v ∈ dc.toList, v.oneCell' = true) := Lib.hid (by
    intro v hv
    have hv' : v ∈ didl0 h (.slice am m.length cm) := by rw [hdc] at hv; simpa using hv
    rcases List.mem_append.1 hv' with h1 | h1
    · exact hlist_one h v (by simpa [hcells] using h1)
    · simp only [List.mem_cons, List.not_mem_nil, or_false] at h1
      rcases h1 with rfl | rfl | rfl | rfl <;> rfl)
  obtain ⟨w1, hw1⟩ : ∃ w1, w1 = ((w.alloc (.cells #[.int .u32 bpc, .slice ai l.length ci] 47)).alloc (.cells (hcells h) 57)).alloc (.cells (didl0 hart0 (.slice none 0 0)).toArray 64) := ⟨_, rfl⟩
  have hb1 : Below w.heap.size w w1 := by rw [hw1]; exact Fb.blw
  have hs1 : w1.heap.size = w.heap.size + 3 := by rw [hw1]; simp
  have hbox : At w1 (w.heap.size + 1) 0 (hlist h) := by
    rw [hw1]
    have : At ((w.alloc (.cells #[.int .u32 bpc, .slice ai l.length ci] 47)).alloc (.cells (hcells h) 57)) (w.alloc (.cells #[.int .u32 bpc, .slice ai l.length ci] 47)).heap.size 0 (hlist h) := at_alloc (w.alloc (.cells #[.int .u32 bpc, .slice ai l.length ci] 47)) (hlist h) 57 (0, 0)
    rw [World.size_alloc] at this
    exact At.below this (by rw [World.size_alloc]; exact Fb.blw)
  have q0 : w1.cell? ⟨w.heap.size, 0, none⟩ = some (.int .u32 bpc) := by rw [hw1]; go_cell
  have q1 : w1.cell? ⟨w.heap.size, 1, none⟩ = some (.slice ai l.length ci) := by rw [hw1]; go_cell
  have hZ : w1.heap[w.heap.size + 1 + 1]? = some (.cells (didl0 hart0 (.slice none 0 0)).toArray 64 (0, 0)) := by
    have := heap_alloc_new ((w.alloc (.cells #[.int .u32 bpc, .slice ai l.length ci] 47)).alloc (.cells (hcells h) 57)) (.cells (didl0 hart0 (.slice none 0 0)).toArray 64)
    rw [World.size_alloc, World.size_alloc] at this
    rw [hw1]; exact this
  obtain ⟨w2, hw2⟩ : ∃ w2, w2 = w1.alloc (.cells dc 64) := ⟨_, rfl⟩
  have hb2 : Below w1.heap.size w1 w2 := by rw [hw2]; exact Fb.blw
  have hs2 : w2.heap.size = w.heap.size + 4 := by rw [hw2]; simp; omega
  have HD2 : Hid (D8 (w.heap.size + 3) 34 60 w2 X0 (.slice am m.length cm) (.slice none 0 0) (.slice none 0 0)) := Lib.hid (by
    rw [hX0]
    refine ⟨wf, hby, ?_, fun o => ?_, (hm.below hb1).below hb2, World.ownsRow_nil _ _ _ _, World.ownsRow_nil _ _ _ _, fun hn q e => ?_, fun q e => by cases e⟩
    · rw [hw2, hdc, ← hs1]; exact at_alloc w1 _ _ _
    · rw [hw2, ← hs1]; unfold World.frozen?; rw [heap_alloc_new]; simp
    · have hq := ints_lt hm hn e
      exact ⟨by omega, by omega, (by intro e; cases e), (by intro e; cases e)⟩)
  have HG0 : Hid (Go8 bpc bt steps l.length 0 X0 X0) := Lib.hid (by rw [hX0]; exact ⟨rfl, hok, hst, wf, hby, hml, rfl, Nat.le_refl 0, Nat.le_refl 0⟩)
  have e0 := (hb2.cell (p := ⟨w.heap.size, 0, none⟩) (by show w.heap.size < _; omega)).trans q0
  have e1 := (hb2.cell (p := ⟨w.heap.size, 1, none⟩) (by show w.heap.size < _; omega)).trans q1
  have HZ2 := Lib.hid ((hb2.block (w.heap.size + 1 + 1) (by omega)).trans hZ)
  have HB2 : Hid (Below w.heap.size w w2) := Lib.hid (hb1.trans (hb2.mono (by omega)))
  have HW1 := Lib.hid hw1
  have HW2 := Lib.hid hw2
  have HDF := Lib.hid hdF
  obtain ⟨io, hio, ho0, ho1, ho2⟩ := info_parts info_u32s8
  obtain ⟨ir, hir, hr0, hr1, hr2⟩ := info_parts info_range88
  clear hb hm hby hw1 hw2 hb1 hb2 hZ hdc hX0 hdF hbt hok hst
  go_enter Try.func34, Try.ntmps34
  go_upto_region 1 with (fail)
  show Code.wp _ _ _ _ (((w.alloc (.cells #[.int .u32 bpc, .slice ai l.length ci] 47)).alloc (.cells (hcells h) 57)).alloc (.cells (didl0 hart0 (.slice none 0 0)).toArray 64))
  rw [← HW1.out]
  go_upto_region 2 with (first | (refine wpList_load_at rfl 57 _ rfl (w.heap.size + 1) 0 rfl (hcells h) _ hbox Try.underlying57 rfl hcsz ?_) | (refine wpList_buildV rfl 64 _ rfl #[(0, .agg (hcells h)), (1, .slice am m.length cm)] (by first | rfl | (simp [Act.eval]; done)) _ (HBD.out _) ?_) | (refine wpList_store_new rfl 64 _ _ rfl w1 _ dc rfl (by rw [hs1]; rfl) rfl hdsz (by rw [hdcs]; rfl) hdo.out ?_))
  rw [← HW2.out]
  go_upto_region 3 with (fail)
  rw [HBT.out]
  go_wp2_with fail
  go_loopw [11] (fun i wr => ∃ k : Nat, i = .int .i64 k ∧ k ≤ l.length ∧ ∃ (X : RunD) (vm vo vs : Value), Hid (D8 (w.heap.size + 3) 34 60 wr X vm vo vs ∧ G7 (w.heap.size + 3) w2 (.slice none 0 0) (.slice none 0 0) wr vo vs ∧ Go8 bpc bt steps l.length k X0 X)) (fun i _ => l.length - (intOf i).toNat)
  case atStart => exact ⟨0, rfl, by omega, X0, _, _, _, Lib.hid ⟨HD2.out, G7.refl, HG0.out⟩⟩
  case round =>
    obtain ⟨k, rfl, hk, X, vm, vo, vs, HI⟩ := hrel
    have HBW2 : Hid (Below (w.heap.size + 3) w2 wr) := Lib.hid (g7_below (Below.refl _ _) (Nat.le_refl _) (by omega) HI.out.2.1)
    have f0 := (HBW2.out.cell (p := ⟨w.heap.size, 0, none⟩) (by show w.heap.size < _; omega)).trans e0
    have f1 := (HBW2.out.cell (p := ⟨w.heap.size, 1, none⟩) (by show w.heap.size < _; omega)).trans e1
    have hk16 : (k : Int) ≤ 16 := by omega
    have c39 := HI.out.1.at_.get ((didl_tail (vm := vm) (vo := vo) (vs := vs) HI.out.2.2.wf.len 2).trans (show ([vm, vo, .int .i64 X.steps, vs] : List Value)[2]? = some (.int .i64 X.steps) from rfl))
    rw [HI.out.2.2.steps] at c39
    simp only [Nat.zero_add, Nat.reduceAdd] at c39
    obtain ⟨bg, hbg⟩ : ∃ bg : Bool, bg = (decide (k < l.length) && decide ((k : Int) < steps)) := ⟨_, rfl⟩
    have HBG := Lib.hid hbg
    clear hbg
    go_upto_region 4 with (fail)
    go_cut [36] from 27 to 35 (fun t wx => t = .bool bg ∧ wx = wr)
    case first =>
      by_cases g1 : k < l.length
      · have i1 : (k : Int) < (l.length : Int) := by omega
        by_cases g2 : (k : Int) < steps
        · have HG3 : Hid (bg = true) := Lib.hid (by rw [HBG.out, decide_eq_true g1, decide_eq_true g2]; rfl)
          go_wp2_with fail
          go_meet
          case rel => exact ⟨by rw [HG3.out], rfl⟩
        · have HG3 : Hid (bg = false) := Lib.hid (by rw [HBG.out, decide_eq_true g1, decide_eq_false g2]; rfl)
          have i2 : decide ((k : Int) < steps) = false := decide_eq_false g2
          go_wp2_with fail
          go_meet
          case rel => exact ⟨by rw [HG3.out], rfl⟩
      · have HG3 : Hid (bg = false) := Lib.hid (by rw [HBG.out, decide_eq_false g1]; rfl)
        have i1 : ¬ (k : Int) < (l.length : Int) := by omega
        go_wp2_with fail
        go_meet
        case rel => exact ⟨by rw [HG3.out], rfl⟩
    case rest =>
     obtain ⟨rfl, hwc3⟩ := hcut
     obtain rfl := hwc3.symm
     cases bg with
     | true =>
      have hgg := HBG.out.symm
      rw [Bool.and_eq_true, decide_eq_true_eq, decide_eq_true_eq] at hgg
      obtain ⟨hlt, hlt2⟩ := hgg
      have i1 : (k : Int) < (l.length : Int) := by omega
      have HE : Hid (dF = if brk8 bpc bt (pl8 bpc (k + 1)) (goS X.core0) = true then next8 X else loop8 bpc bt steps (l.length - (k + 1)) (k + 1) (next8 X)) := Lib.hid (by
        rw [HDF.out, ← HI.out.2.2.left]
        have : l.length - k = (l.length - (k + 1)) + 1 := by omega
        rw [this, loop8, if_pos (by rw [HI.out.2.2.steps]; exact hlt2)])
      have hbx : At wr (w.heap.size + 3) 0 (hlist X.h) := (show At wr (w.heap.size + 3) 0 (hlist X.h ++ _) from HI.out.1.at_).append_left
      have hxsz : (Try.prog.info? 57).map (·.size) = some (hcells X.h).size := by rw [hcells_size HI.out.2.2.wf]; kernel_rfl
      have c37 := HI.out.1.at_.get ((didl_tail (vm := vm) (vo := vo) (vs := vs) HI.out.2.2.wf.len 0).trans (show ([vm, vo, .int .i64 X.steps, vs] : List Value)[0]? = some vm from rfl))
      simp only [Nat.zero_add, Nat.reduceAdd] at c37
      obtain ⟨avm, cvm, rfl, -⟩ := HI.out.1.mem.open
      have HST := Lib.hid (step4_any X.h HI.out.2.2.wf _ X.m wr HI.out.1.mem HI.out.2.2.bytes HI.out.2.2.ml)
      obtain ⟨dS, hdS⟩ : ∃ d, d = goS (⟨X.h, X.m, [], 0, 0⟩ : CoreD) := ⟨_, rfl⟩
      rw [← hdS] at HST
      have hcore : (⟨X.h, X.m, [], 0, 0⟩ : CoreD).Wf := ⟨HI.out.2.2.wf, HI.out.2.2.bytes, (by intro x hx; cases hx), u32_0, u32_0, by have := HI.out.2.2.ml; show X.m.length ≤ _; omega, by show ([] : List Int).length ≤ _; simp⟩
      have HWD : Hid dS.Wf := Lib.hid (by rw [hdS]; exact goS_wf hcore (by simp))
      have HRG : Hid (Rng dS) := Lib.hid (by rw [hdS]; exact goS_rng _ HI.out.2.2.wf _ HI.out.2.2.ml)
      have HFI := Lib.hid (goS_fin X.h X.m HI.out.2.2.ok HI.out.2.2.state)
      rw [← hdS] at HFI
      have HDS : Hid (goS X.core0 = dS) := Lib.hid (by rw [hdS]; rfl)
      rw [HDS.out] at HE
      have hRlt := HI.out.1.lt
      clear hdS hcore
      go_upto_region 6 with (fail)
      go_wp2_with (first | (refine wpList_load_at rfl 57 _ rfl (w.heap.size + 3) 0 rfl (hcells X.h) _ hbx Try.underlying57 rfl hxsz ?_))
      refine HST.out.mono ?_
      rintro e w4 ⟨d', rfl, hD', hvm', hvo', hb4⟩
      have hok' : d'.Ok := hD'.ok HWD.out
      have hs4 := hb4.size
      obtain ⟨w5, hw5⟩ : ∃ w5, w5 = w4.alloc (.cells (dcells d') 76) := ⟨_, rfl⟩
      have hb5 : Below w4.heap.size w4 w5 := by rw [hw5]; exact Fb.blw
      have hs5 : w5.heap.size = w4.heap.size + 1 := by rw [hw5]; simp
      have hb45 : Below wr.heap.size wr w5 := hb4.trans (hb5.mono hs4)
      have hda : At w5 w4.heap.size 0 (dlist d') := by rw [hw5]; exact box_did d' w4 76
      have hD5 := HI.out.1.below hb45
      have hDo5 := hD'.below hb5
      have hdh := hD'.h
      have c39' := (hb45.cell (p := ⟨w.heap.size + 3, 39, none⟩) hRlt).trans c39
      have g39 := hD5.frz 39
      have HF0 := Lib.hid ((hb45.cell (p := ⟨w.heap.size, 0, none⟩) (lt_of_cell f0)).trans f0)
      have HF1 := Lib.hid ((hb45.cell (p := ⟨w.heap.size, 1, none⟩) (lt_of_cell f1)).trans f1)
      have E6 := hD5.steps ((k : Int) + 1)
      obtain ⟨w6, hw6⟩ : ∃ w6, w6 = w5.setCell ⟨w.heap.size + 3, 39, none⟩ (.int .i64 ((k : Int) + 1)) := ⟨_, rfl⟩
      rw [← hw6] at E6
      have hk6 : ∀ b, b ≠ w.heap.size + 3 → w6.heap[b]? = w5.heap[b]? := fun b hb => by rw [hw6]; exact Below.heap_setCell _ _ _ _ (by show b ≠ w.heap.size + 3; exact hb)
      have hs6 : w6.heap.size = w5.heap.size := by rw [hw6]; simp
      have hda6 : At w6 w4.heap.size 0 (dlist d') := fun j hj => (cell_block (hk6 w4.heap.size (by omega)) _).trans (hda j hj)
      have hdx6 : At w6 w4.heap.size 0 (hlist dS.h) := by rw [← hdh]; exact (show At w6 w4.heap.size 0 (hlist d'.h ++ dtail d') from hda6).append_left
      have hwS := HWD.out.h
      have hssz : (Try.prog.info? 57).map (·.size) = some (hcells dS.h).size := by rw [hcells_size hwS]; kernel_rfl
      have hone : (hcells dS.h).all (·.oneCell') = true := Array.all_eq_true_iff_forall_mem.2 (fun v hv => hlist_one dS.h v (by simpa using hv))
      have hth : w6.there (w.heap.size + 3) 0 (hcells dS.h).size := by
        rw [hcells_size hwS]
        intro j hj
        have h1 := E6.1.at_ j (by rw [didl_len E6.1.wf.len]; omega)
        exact ⟨by rw [h1]; rfl, E6.1.frz _⟩
      have E7 := E6.1.hart dS.h hwS
      have hml' : dS.m.length = X.m.length := HFI.out.ml
      have E8 := E7.1.bytes_ (vm' := d'.vm) (m' := dS.m) (ints_move hDo5.m (fun hne g hg => ?h1)) (fun hne q e => ?h2) HWD.out.m
      case h1 =>
        refine (heap_setCells ?_ _ _ _).trans (hk6 g ?_)
        all_goals
          rcases hvm' with e | e
          · rw [e] at hg
            exact (HI.out.1.mlt (by intro e2; exact hne (List.eq_nil_of_length_eq_zero (by rw [hml', e2]; rfl))) g hg).2.1
          · have := e g hg; omega
      case h2 =>
        have hz : (w6.setCells (w.heap.size + 3) 0 (hlist dS.h)).heap.size = w6.heap.size := by simp [size_setCells]
        rw [hz]
        rcases hvm' with e2 | e2
        · rw [e2] at e
          have := HI.out.1.mlt (by intro e2; exact hne (List.eq_nil_of_length_eq_zero (by rw [hml', e2]; rfl))) q e
          exact ⟨by omega, this.2⟩
        · have h3 := e2 q e
          have h4 := ints_lt hDo5.m hne e
          refine ⟨by omega, by omega, fun e3 => ?_, fun e3 => ?_⟩
          · have := (HI.out.1.out.lt q e3).2; omega
          · have := (HI.out.1.sto.lt q e3).2; omega
      have hsz8 : ((w6.setCells (w.heap.size + 3) 0 (hlist dS.h)).setCell ⟨w.heap.size + 3, 37, none⟩ d'.vm).heap.size = w6.heap.size := by simp [size_setCells]
      have hk8 : ∀ b, b ≠ w.heap.size + 3 → ((w6.setCells (w.heap.size + 3) 0 (hlist dS.h)).setCell ⟨w.heap.size + 3, 37, none⟩ d'.vm).heap[b]? = w5.heap[b]? := fun b hb => (Below.heap_setCell _ _ _ _ (by show b ≠ w.heap.size + 3; exact hb)).trans ((heap_setCells hb _ _ _).trans (hk6 b hb))
      have ho8 : Ints .u32 ((w6.setCells (w.heap.size + 3) 0 (hlist dS.h)).setCell ⟨w.heap.size + 3, 37, none⟩ d'.vm) d'.vo dS.out := ints_move hDo5.o (fun _ g hg => hk8 g (by have := hvo' g hg; omega))
      have hda7 : At (w6.setCells (w.heap.size + 3) 0 (hlist dS.h)) w4.heap.size 0 (dlist d') := at_setCells (by omega) _ _ _ hda6
      have t37 := hda7.get (dlist_t hok'.len 0)
      have r37 := E7.1.at_.get (didl_tail (d := { X with steps := (k : Int) + 1, h := dS.h }) (vm := .slice avm X.m.length cvm) (vo := vo) (vs := vs) hwS.len 0)
      have g37 := E7.1.frz 37
      have hda8 : At ((w6.setCells (w.heap.size + 3) 0 (hlist dS.h)).setCell ⟨w.heap.size + 3, 37, none⟩ d'.vm) w4.heap.size 0 (dlist d') := hda7.set_other (by show w.heap.size + 3 ≠ w4.heap.size; omega) _
      have t38 := hda8.get (dlist_t hok'.len 1)
      have r38 := E8.1.at_.get (didl_tail (d := { X with steps := (k : Int) + 1, h := dS.h, m := dS.m }) (vm := d'.vm) (vo := vo) (vs := vs) hwS.len 1)
      have g38 := E8.1.frz 38
      have r39 : w6.setCells (w.heap.size + 3) 0 (hlist dS.h) = w6.setCells (w.heap.size + 3) 0 (hcells dS.h).toList := rfl
      have HDD := Lib.hid (And.intro hD'.fr hD'.many)
      obtain ⟨av, cv, evm, -⟩ := hDo5.m.open
      obtain ⟨ao, co, evo, -⟩ := hDo5.o.open
      have hvoB : ∀ g, vo.ownBlock = some g → w.heap.size + 4 ≤ g ∧ g < wr.heap.size := fun g hg => by have := HI.out.1.out.lt g hg; omega
      have hvo9 : ∀ g, d'.vo.ownBlock = some g → wr.heap.size ≤ g := hvo'
      obtain ⟨avo, cvo, rfl⟩ := owns_slice HI.out.1.out
      rw [evm] at E8 t37 t38 r38 g38 hda8 ho8 hsz8 hk8
      rw [evo] at t38 ho8 hvo9
      simp only [Nat.zero_add, Nat.reduceAdd] at t37 t38 r37 r38
      obtain ⟨w7, hw7⟩ : ∃ w7, w7 = w6.setCells (w.heap.size + 3) 0 (hcells dS.h).toList := ⟨_, rfl⟩
      have e7 : w6.setCells (w.heap.size + 3) 0 (hlist dS.h) = w7 := by rw [hw7]; rfl
      rw [e7] at E7 E8 t37 t38 r37 r38 g37 g38 hda7 hda8 ho8 hsz8 hk8
      obtain ⟨w8, hw8⟩ : ∃ w8, w8 = w7.setCell ⟨w.heap.size + 3, 37, none⟩ (.slice av dS.m.length cv) := ⟨_, rfl⟩
      rw [← hw8] at E8 t38 r38 g38 hda8 ho8 hsz8 hk8
      have t37' : w7.cell? ⟨w4.heap.size, 37, none⟩ = some (.slice av dS.m.length cv) := t37
      have t38' : w8.cell? ⟨w4.heap.size, 38, none⟩ = some (.slice ao dS.out.length co) := t38
      have r37' : w7.cell? ⟨w.heap.size + 3, 37, none⟩ = some (.slice avm X.m.length cvm) := r37
      have r38' : w8.cell? ⟨w.heap.size + 3, 38, none⟩ = some (.slice avo X.out.length cvo) := r38
      have G8' : G7 (w.heap.size + 3) wr (.slice avo X.out.length cvo) vs w8 (.slice avo X.out.length cvo) vs := (((G7.below hb45).trans E6.2).trans E7.2).trans E8.2
      have HE8 := Lib.hid E8.1
      have HG8 := Lib.hid G8'
      have HO8 := Lib.hid ho8
      have HDA8 := Lib.hid hda8
      have HW5 := Lib.hid hw5
      have HW6 := Lib.hid hw6
      have HW7 := Lib.hid hw7
      have HW8 := Lib.hid hw8
      have HOL := Lib.hid hok'.len
      have HK8 := Lib.hid hk8
      have hxl : X.out.length ≤ 16 := by have := HI.out.2.2.out; omega
      have hsl : X.stores.length ≤ 16 := by have := HI.out.2.2.stores; omega
      have hol : dS.out.length ≤ 1 := HFI.out.ol
      have hw8l : w.heap.size + 3 + 1 ≤ w8.heap.size := by omega
      have hkk : wrap64 ((k : Int) + 1) = (k : Int) + 1 := by unfold wrap64; omega
      have HKK := Lib.hid hkk
      clear hw5 hw6 hw7 hw8 hb4 hb5 hb45 hda hD5 hDo5 E6 hda6 E7 E8 G8' ho8 hda7 hda8 hk6 hk8 t37 t38 r37 r38 e7 r39 hD' hdh hvm' hvo' hkk c39 c37 hbx hml' evm evo
      go_upto_region 7 with (first | (refine wpList_store_new rfl 76 _ _ rfl w4 _ (dcells d') rfl rfl rfl (did_size hok') (by rw [dcells_size hok']; rfl) (dlist_one hok') ?_))
      rw [← HW5.out]
      go_upto_region 8 with (fail)
      try rw [HKK.out]
      rw [← HW6.out]
      go_upto_region 9 with (first | (refine wpList_load_at rfl 57 _ rfl w4.heap.size 0 rfl (hcells dS.h) _ hdx6 Try.underlying57 rfl hssz ?_) | (refine wpList_store_mid rfl 57 _ _ rfl (w.heap.size + 3) 0 (hcells dS.h) rfl rfl hth hssz hone ?_))
      rw [← HW7.out]
      clear c39' g39 hdx6 hth hone
      go_upto_region 10 with (fail)
      rw [← HW8.out]
      clear t37' r37' g37
      go_wp2_with (first | (at_builtin; refine append_at rfl _ _ 61 rfl (w.heap.size + 3 + 1) 34 io _ 1 4 Try.underlying61 hio ho0 ho1 ho2 rfl (by decide) (.slice avo X.out.length cvo) X.out.length (X.out.map (Value.int .u32)) rfl HE8.out.out _ dS.out.length (dS.out.map (Value.int .u32)) rfl HO8.out (u32_one8 _) ?_ ?_ ?_ ?_))
      rotate_right
      · intro v5 w9 hown9 hgrow9 hat9
        have h8s : w8.heap.size = w4.heap.size + 1 := by omega
        have E10 := HE8.out.out_ hown9 hgrow9 (by rw [h8s]; exact hat9)
        clear h8s
        obtain ⟨a5, c5, rfl⟩ := owns_slice hown9
        have eb := hgrow9.block (w.heap.size + 3) HE8.out.lt (fun e => by have := hvoB _ e.symm; omega)
        have r38 := (cell_block eb 38).trans r38'
        have gg38 := (frozen_block eb 38).trans g38
        obtain ⟨w10, hw10⟩ : ∃ w10, w10 = w9.setCell ⟨w.heap.size + 3, 38, none⟩ (.slice a5 (X.out.length + dS.out.length) c5) := ⟨_, rfl⟩
        rw [← hw10] at E10
        have hk10 : ∀ b, b < w8.heap.size → b ≠ w.heap.size + 3 → (Value.slice avo X.out.length cvo).ownBlock ≠ some b → w10.heap[b]? = w8.heap[b]? := fun b h1 h2 h3 => by
          rw [hw10]
          exact (Below.heap_setCell _ _ _ _ (by show b ≠ w.heap.size + 3; exact h2)).trans (hgrow9.block b h1 (fun e => h3 e.symm))
        have hd10 : At w10 w4.heap.size 0 (dlist d') := fun j hj => (cell_block (hk10 w4.heap.size (by omega) (by omega) (fun e => by have := hvoB _ e; omega)) _).trans (HDA8.out j hj)
        have x39 := hd10.get (dlist_t HOL.out 2)
        have x40 := hd10.get (dlist_t HOL.out 3)
        simp only [Nat.zero_add, Nat.reduceAdd] at x39 x40
        have x39' : w10.cell? ⟨w4.heap.size, 39, none⟩ = some (.int .u32 dS.fr) := by rw [← HDD.out.1]; exact x39
        have x40' : w10.cell? ⟨w4.heap.size, 40, none⟩ = some (.int .i64 (dS.tw - dS.fr)) := by rw [← HDD.out.2]; exact x40
        have z0 : w10.cell? ⟨w.heap.size, 0, none⟩ = some (.int .u32 bpc) := (cell_block ((hk10 w.heap.size (by omega) (by omega) (fun e => by have := hvoB _ e; omega)).trans (HK8.out w.heap.size (by omega))) 0).trans HF0.out
        have z1 : w10.cell? ⟨w.heap.size, 1, none⟩ = some (.slice ai l.length ci) := (cell_block ((hk10 w.heap.size (by omega) (by omega) (fun e => by have := hvoB _ e; omega)).trans (HK8.out w.heap.size (by omega))) 1).trans HF1.out
        have HE10 := Lib.hid E10.1
        have HG10 := Lib.hid (HG8.out.trans E10.2)
        have HW10 := Lib.hid hw10
        clear hown9 hgrow9 hat9 E10 eb hw10 hk10 hd10 x39 x40 t38' r38' g38 HK8 HDA8
        obtain ⟨mn, hmn⟩ : ∃ mn, mn = dS.tw - dS.fr := ⟨_, rfl⟩
        rw [← hmn] at x40'
        obtain ⟨fr, hfr⟩ : ∃ fr, fr = dS.fr := ⟨_, rfl⟩
        rw [← hfr] at x39'
        have hrg : (fr = 0 ∧ mn = 0 ∧ dS.tw = 0) ∨ (0 ≤ fr ∧ 0 < mn ∧ mn ≤ 4096 ∧ fr + mn = dS.tw ∧ dS.tw ≤ 4096) := by
          have h1 := HFI.out.ml
          have h1' : dS.m.length = X.m.length := h1
          have h2 := HI.out.2.2.ml
          rcases HRG.out with ⟨h3, h4⟩ | ⟨h3, h4, h5⟩
          · left; omega
          · right; omega
        have HRR := Lib.hid hrg
        obtain ⟨own, hown⟩ : ∃ own, own = own8 bpc bt dS := ⟨_, rfl⟩
        have HOW := Lib.hid hown
        have HFR := Lib.hid (And.intro hfr hmn)
        have HST0 := Lib.hid HI.out.2.2.steps
        clear hown hfr hmn hrg
        go_upto_region 12 with (fail)
        rw [← HW10.out]
        clear r38 gg38
        go_upto_if 62 with (fail)
        obtain ⟨B, hB⟩ : ∃ B : Bool, B = decide (0 < mn) := ⟨_, rfl⟩
        rw [← hB]
        have HBB := Lib.hid hB
        clear hB
        go_cut [13, 14] from 62 to 88 (fun t13 t14 wx => t13 = .bool own ∧ ∃ vs', Hid (D8 (w.heap.size + 3) 34 60 wx (next8 X) (.slice av dS.m.length cv) (.slice a5 (X.out.length + dS.out.length) c5) vs' ∧ G7 (w.heap.size + 3) wr (.slice avo X.out.length cvo) vs wx (.slice a5 (X.out.length + dS.out.length) c5) vs' ∧ wx.cell? ⟨w.heap.size, 0, none⟩ = some (.int .u32 bpc)))
        case first =>
          cases B with
          | true =>
            have hp : 0 < mn := of_decide_eq_true HBB.out.symm
            obtain ⟨tw, htw⟩ : ∃ tw, tw = dS.tw := ⟨_, rfl⟩
            have hnn : mn % 4294967296 = mn := by have := HRR.out; omega
            have HUN : Hid ((fr + mn) % 4294967296 = tw) := Lib.hid (by rw [htw]; have := HRR.out; omega)
            have hlt3 : dS.fr < dS.tw := by rw [← HFR.out.1]; have := HRR.out; omega
            have HN : Hid (next8 X = { X with steps := (k : Int) + 1, h := dS.h, m := dS.m, out := X.out ++ dS.out, stores := X.stores ++ [(fr, tw)] }) := Lib.hid (by
              unfold next8
              rw [HDS.out, if_pos hlt3, HST0.out, HFR.out.1, htw])
            have HOW2 : Hid (own = (decide (fr < bt) && decide (bpc < tw))) := Lib.hid (by rw [HOW.out, HFR.out.1, htw]; unfold own8; rw [decide_eq_true hlt3, Bool.true_and])
            have r40 := HE10.out.at_.get (didl_tail (d := { X with steps := (k : Int) + 1, h := dS.h, m := dS.m, out := X.out ++ dS.out }) (vm := .slice av dS.m.length cv) (vo := .slice a5 (X.out.length + dS.out.length) c5) (vs := vs) hwS.len 3)
            have g40 := HE10.out.frz 40
            obtain ⟨asv, csv, hvs⟩ := owns_slice HE10.out.sto
            have hvsB : ∀ g, vs.ownBlock = some g → w.heap.size + 4 ≤ g ∧ g < w10.heap.size := fun g hg => by have := HE10.out.sto.lt g hg; omega
            simp only [Nat.zero_add, Nat.reduceAdd] at r40
            have r40' : w10.cell? ⟨w.heap.size + 3, 40, none⟩ = some vs := r40
            have hR10 := HE10.out.lt
            obtain ⟨w11, hw11⟩ : ∃ w11, w11 = w10.alloc (.cells #[.int .u32 fr, .int .u32 tw] 60) := ⟨_, rfl⟩
            have hb11 : Below w10.heap.size w10 w11 := by rw [hw11]; exact Fb.blw
            have hs11 : w11.heap.size = w10.heap.size + 1 := by rw [hw11]; simp
            obtain ⟨w12, hw12⟩ : ∃ w12, w12 = w11.alloc (.cells #[.int .u32 fr, .int .u32 tw] 60) := ⟨_, rfl⟩
            have hb12 : Below w11.heap.size w11 w12 := by rw [hw12]; exact Fb.blw
            have hs12 : w12.heap.size = w10.heap.size + 2 := by rw [hw12]; simp; omega
            have hb1012 : Below w10.heap.size w10 w12 := hb11.trans (hb12.mono (by omega))
            have HAT : Hid (At w12 w11.heap.size 0 (rg (fr, tw))) := Lib.hid (by rw [hw12]; exact at_alloc w11 (rg (fr, tw)) _ _)
            have HOWN : Hid (w12.ownsRow (w.heap.size + 3 + 1) 60 2 vs X.stores.length (X.stores.flatMap rg)) := Lib.hid (owns_below HE10.out.sto hb1012)
            have v0 : w11.cell? ⟨w10.heap.size, 0, none⟩ = some (.int .u32 fr) := by rw [hw11]; go_cell
            have v1 : w11.cell? ⟨w10.heap.size, 1, none⟩ = some (.int .u32 tw) := by rw [hw11]; go_cell
            have y40 := (hb11.cell (p := ⟨w.heap.size + 3, 40, none⟩) hR10).trans r40'
            have y40b := (hb1012.cell (p := ⟨w.heap.size + 3, 40, none⟩) hR10).trans r40'
            have yf40 := (hb1012.frozen (p := ⟨w.heap.size + 3, 40, none⟩) hR10).trans g40
            have yv0 := (hb12.cell (p := ⟨w10.heap.size, 0, none⟩) (by show w10.heap.size < _; omega)).trans v0
            have yv1 := (hb12.cell (p := ⟨w10.heap.size, 1, none⟩) (by show w10.heap.size < _; omega)).trans v1
            have yz0 := (hb1012.cell (p := ⟨w.heap.size, 0, none⟩) (lt_of_cell z0)).trans z0
            have HB1012 := Lib.hid hb1012
            have HW11 := Lib.hid hw11
            have HW12 := Lib.hid hw12
            have HYS : Hid (X.stores.length ≤ 16) := Lib.hid hsl
            subst hvs
            clear hw11 hw12 hb11 hb12 hb1012 hlt3 htw r40 r40' g40 hs11 z0 z1 hsl
            go_upto_region 14 with (fail)
            try rw [HUN.out]
            rw [← HW11.out]
            go_wp2_with (at_builtin; (try rw [← HW12.out]); refine append_at rfl _ _ 62 rfl (w.heap.size + 3 + 1) 60 ir _ 2 8 Try.underlying62 hir hr0 hr1 hr2 rfl (by decide) _ X.stores.length (X.stores.flatMap rg) rfl HOWN.out _ 1 (rg (fr, tw)) rfl (Sl.mk HAT.out rfl (by omega) (by decide)) (by intro u hu; simp [rg] at hu; rcases hu with rfl | rfl <;> rfl) (by have := HYS.out; omega) (by have := HYS.out; unfold maxLen; omega) (by omega) ?h6)
            case h6 =>
              intro v6 w13 hown13 hgrow13 hat13
              have E14 := HE10.out.sto_ HB1012.out (p := (fr, tw)) hown13 hgrow13 (by rw [hs12]; exact hat13)
              obtain ⟨a6, c6, rfl⟩ := owns_slice hown13
              have eb := hgrow13.block (w.heap.size + 3) (by omega) (fun e => by have := hvsB _ e.symm; omega)
              have ex := hgrow13.block w10.heap.size (by omega) (fun e => by have := hvsB _ e.symm; omega)
              have ez := hgrow13.block w.heap.size (by omega) (fun e => by have := hvsB _ e.symm; omega)
              have s40 := (cell_block eb 40).trans y40b
              have sf40 := (frozen_block eb 40).trans yf40
              obtain ⟨w14, hw14⟩ : ∃ w14, w14 = w13.setCell ⟨w.heap.size + 3, 40, none⟩ (.slice a6 (X.stores.length + 1) c6) := ⟨_, rfl⟩
              rw [← hw14] at E14
              have hk14 : ∀ b, b ≠ w.heap.size + 3 → w14.heap[b]? = w13.heap[b]? := fun b hb => by rw [hw14]; exact Below.heap_setCell _ _ _ _ (by show b ≠ w.heap.size + 3; exact hb)
              have u0 := (cell_block ((hk14 w10.heap.size (by omega)).trans ex) 0).trans yv0
              have u1 := (cell_block ((hk14 w10.heap.size (by omega)).trans ex) 1).trans yv1
              have uz := (cell_block ((hk14 w.heap.size (by omega)).trans ez) 0).trans yz0
              have HF14 : Hid (D8 (w.heap.size + 3) 34 60 w14 (next8 X) (.slice av dS.m.length cv) (.slice a5 (X.out.length + dS.out.length) c5) (.slice a6 (X.stores.length + 1) c6)) := Lib.hid (by rw [HN.out]; exact E14.1)
              have HG14 := Lib.hid (HG10.out.trans E14.2)
              have HW14 := Lib.hid hw14
              clear E14 hown13 hgrow13 hat13 eb ex ez hw14 hk14 y40 y40b yf40 yv0 yv1 yz0 HN
              by_cases p1 : fr < bt
              · have p1' : decide (fr < bt) = true := decide_eq_true p1
                obtain ⟨b2, hb2⟩ : ∃ b2, b2 = decide (bpc < tw) := ⟨_, rfl⟩
                have HO3 : Hid (own = b2) := Lib.hid (by rw [HOW2.out, p1', hb2]; rfl)
                by_cases p2 : bpc < tw
                · have p2' : decide (bpc < tw) = true := decide_eq_true p2
                  have HO4 : Hid (own = true) := Lib.hid (by rw [HO3.out, hb2]; exact p2')
                  clear hb2 p1 p2
                  go_upto_region 15 with (fail)
                  rw [← HW14.out]
                  clear s40 sf40
                  go_wp2_with fail
                  go_meet
                  case rel => exact ⟨by rw [HO4.out], _, Lib.hid ⟨HF14.out, HG14.out, uz⟩⟩
                · have p2' : decide (bpc < tw) = false := decide_eq_false p2
                  have HO4 : Hid (own = false) := Lib.hid (by rw [HO3.out, hb2]; exact p2')
                  clear hb2 p1 p2
                  go_upto_region 15 with (fail)
                  rw [← HW14.out]
                  clear s40 sf40
                  go_wp2_with fail
                  go_meet
                  case rel => exact ⟨by rw [HO4.out], _, Lib.hid ⟨HF14.out, HG14.out, uz⟩⟩
              · have p1' : decide (fr < bt) = false := decide_eq_false p1
                have HO4 : Hid (own = false) := Lib.hid (by rw [HOW2.out, p1']; rfl)
                clear p1
                go_upto_region 15 with (fail)
                rw [← HW14.out]
                clear s40 sf40
                go_wp2_with fail
                go_meet
                case rel => exact ⟨by rw [HO4.out], _, Lib.hid ⟨HF14.out, HG14.out, uz⟩⟩
          | false =>
            have hp : ¬ 0 < mn := of_decide_eq_false HBB.out.symm
            have HN : Hid (D8 (w.heap.size + 3) 34 60 w10 (next8 X) (.slice av dS.m.length cv) (.slice a5 (X.out.length + dS.out.length) c5) vs ∧ own = false) := Lib.hid (by
              have hnl : ¬ dS.fr < dS.tw := by rw [← HFR.out.1]; have := HFR.out; have := HRR.out; omega
              refine ⟨?_, by rw [HOW.out]; exact own8_none _ _ hnl⟩
              have e : next8 X = { X with steps := (k : Int) + 1, h := dS.h, m := dS.m, out := X.out ++ dS.out } := by
                unfold next8
                rw [HDS.out, if_neg hnl, HST0.out]
              rw [e]
              exact HE10.out)
            have hof := HN.out.2
            clear hp
            go_wp2_with fail
            go_meet
            case rel => exact ⟨by rw [HN.out.2], vs, Lib.hid ⟨HN.out.1, HG10.out, z0⟩⟩
        case rest =>
          obtain ⟨rfl, vs', HC⟩ := hcut
          obtain ⟨w20, hw20⟩ : ∃ w20, w20 = wc := ⟨_, rfl⟩
          rw [← hw20] at HC ⊢
          clear hw20
          obtain ⟨Y, hY⟩ : ∃ Y, Y = next8 X := ⟨_, rfl⟩
          rw [← hY] at HC HE
          have hYh : Y.h = dS.h := by rw [hY]; show (goS X.core0).h = _; rw [HDS.out]
          have HYM : Hid (Y.m.length = X.m.length ∧ Y.out.length ≤ k + 1 ∧ Y.stores.length ≤ k + 1 ∧ Y.steps = ((k + 1 : Nat) : Int)) := Lib.hid (by
            have h1 : Y.m = dS.m := by rw [hY]; show (goS X.core0).m = _; rw [HDS.out]
            have h2 : Y.out = X.out ++ dS.out := by rw [hY]; show X.out ++ (goS X.core0).out = _; rw [HDS.out]
            have h3 : Y.steps = X.steps + 1 := by rw [hY]; rfl
            have h4 : Y.stores.length ≤ X.stores.length + 1 := by
              rw [hY]
              show (if _ then X.stores ++ [_] else X.stores).length ≤ _
              split
              · simp
              · omega
            have h5 := HI.out.2.2.out
            have h6 := HI.out.2.2.stores
            refine ⟨by rw [h1]; exact HFI.out.ml, ?_, by omega, by rw [h3, HI.out.2.2.steps]; push_cast; rfl⟩
            rw [h2, List.length_append]; omega)
          have s35 := HC.out.1.at_.get ((didl_hart (vm := .slice av dS.m.length cv) (vo := .slice a5 (X.out.length + dS.out.length) c5) (vs := vs') HC.out.1.wf.len (by omega)).trans (hlist_state HC.out.1.wf))
          have s32 := HC.out.1.at_.get ((didl_hart (vm := .slice av dS.m.length cv) (vo := .slice a5 (X.out.length + dS.out.length) c5) (vs := vs') HC.out.1.wf.len (by omega)).trans (hlist_pc HC.out.1.wf))
          have uz := HC.out.2.2
          simp only [Nat.zero_add] at s35 s32
          rw [hYh] at s35 s32
          obtain ⟨st, hst⟩ : ∃ st, st = dS.h.state := ⟨_, rfl⟩
          obtain ⟨pc, hpcd⟩ : ∃ pc, pc = dS.h.pc := ⟨_, rfl⟩
          rw [← hst] at s35
          rw [← hpcd] at s32
          have HBK : Hid (brk8 bpc bt (pl8 bpc (k + 1)) dS = (st != 0 || pc != pl8 bpc (k + 1) || own)) := Lib.hid (by unfold brk8; rw [← hst, ← hpcd, HOW.out])
          have hpl : (bpc + (4 * (k : Int) + 4)) % 4294967296 = pl8 bpc (k + 1) := by
            unfold pl8 Fb.u32
            push_cast
            have : (4 * ((k : Int) + 1)) % 4294967296 = 4 * (k : Int) + 4 := by omega
            rw [this]
          obtain ⟨plc, hplc⟩ : ∃ plc, plc = pl8 bpc (k + 1) := ⟨_, rfl⟩
          rw [← hplc] at HBK hpl HE
          have HQ : Hid (D8 (w.heap.size + 3) 34 60 w20 Y (.slice av dS.m.length cv) (.slice a5 (X.out.length + dS.out.length) c5) vs' ∧ G7 (w.heap.size + 3) w2 (.slice none 0 0) (.slice none 0 0) w20 (.slice a5 (X.out.length + dS.out.length) c5) vs') := Lib.hid ⟨HC.out.1, HI.out.2.1.trans HC.out.2.1⟩
          have HSS := Lib.hid (And.intro hst (And.intro hpcd (And.intro hplc (And.intro hYh hY))))
          have HPL := Lib.hid hpl
          clear hst hpcd hplc hY hYh HC hpl
          obtain ⟨bk, hbk⟩ : ∃ bk, bk = (st != 0 || pc != plc || own) := ⟨_, rfl⟩
          have HBQ := Lib.hid hbk
          have hplk := HPL.out
          go_upto_region 16 with (fail)
          go_cut [108] from 89 to 107 (fun t wx => t = .bool bk ∧ wx = w20)
          case first =>
            have hcs : (¬ st = 0 ∧ bk = true) ∨ (st = 0 ∧ ¬ pc = plc ∧ bk = true) ∨ (st = 0 ∧ pc = plc ∧ bk = own) := by
              by_cases h1 : st = 0
              · by_cases h2 : pc = plc
                · exact .inr (.inr ⟨h1, h2, by rw [hbk, h1, h2]; simp⟩)
                · exact .inr (.inl ⟨h1, h2, by rw [hbk, h1]; simp [h2]⟩)
              · exact .inl ⟨h1, by rw [hbk]; simp [h1]⟩
            clear hbk
            rcases hcs with ⟨h1, h3⟩ | ⟨rfl, h2, h3⟩ | ⟨rfl, rfl, h3⟩
            · have HK3 := Lib.hid h3
              have j1 : (st != 0) = true := by simpa using h1
              have j2 : (st == 0) = false := by simpa using h1
              have j3 : decide (st = 0) = false := decide_eq_false h1
              clear h3
              go_wp2_with fail
              go_meet
              case rel => exact ⟨by rw [HK3.out], rfl⟩
            · have HK3 := Lib.hid h3
              have j1 : (pc != plc) = true := by simpa using h2
              have j2 : (pc == plc) = false := by simpa using h2
              have j3 : decide (pc = plc) = false := decide_eq_false h2
              clear h3
              go_wp2_with fail
              go_meet
              case rel => exact ⟨by rw [HK3.out], rfl⟩
            · have HK3 := Lib.hid h3
              clear h3
              go_wp2_with fail
              go_meet
              case rel => exact ⟨by rw [HK3.out], rfl⟩
          case rest =>
            obtain ⟨rfl, hwc2⟩ := hcut
            obtain rfl := hwc2.symm
            cases bk with
            | true =>
              replace HE : Hid (dF = Y) := Lib.hid (by rw [HE.out, HBK.out, if_pos HBQ.out.symm])
              obtain ⟨as', cs', rfl⟩ := owns_slice HQ.out.1.sto
              clear s35 s32 uz hbk x39' x40' z0 z1 hvoB hvo9 hok' hxsz hssz hwS hplk
              have hbx : At w20 (w.heap.size + 3) 0 (didl Y (.slice av dS.m.length cv) (.slice a5 (X.out.length + dS.out.length) c5) (.slice as' Y.stores.length cs')) := HQ.out.1.at_
              have hzs : (didl Y (.slice av dS.m.length cv) (.slice a5 (X.out.length + dS.out.length) c5) (.slice as' Y.stores.length cs')).toArray.size = 41 := didl_size HQ.out.1.wf.len
              have hzz := (HQ.out.2.block (w.heap.size + 1 + 1) (by omega) (by omega) (by intro e; cases e) (by intro e; cases e)).trans HZ2.out
              have hsz41 : (Try.prog.info? 64).map (·.size) = some (didl Y (.slice av dS.m.length cv) (.slice a5 (X.out.length + dS.out.length) c5) (.slice as' Y.stores.length cs')).toArray.size := by rw [hzs]; kernel_rfl
              have ht : w20.there (w.heap.size + 1 + 1) 0 (didl Y (.slice av dS.m.length cv) (.slice a5 (X.out.length + dS.out.length) c5) (.slice as' Y.stores.length cs')).toArray.size := by rw [hzs]; exact there_blk hzz (by decide)
              have hld := load_setCells (P := Try.prog) ht Try.underlying64 rfl hsz41
              have hall := d8_all HQ.out.1
              have hbx' : At w20 (w.heap.size + 3) 0 (didl Y (.slice av dS.m.length cv) (.slice a5 (X.out.length + dS.out.length) c5) (.slice as' Y.stores.length cs')).toArray.toList := by simpa using hbx
              have HSH := Lib.hid (d8_shown HQ.out.1 (show w.heap.size + 1 + 1 < w.heap.size + 3 by omega) hzz (didl Y (.slice av dS.m.length cv) (.slice a5 (X.out.length + dS.out.length) c5) (.slice as' Y.stores.length cs')).toArray.toList)
              have HBWW := Lib.hid (below_setCells (b := w.heap.size + 1 + 1) (by omega) (didl Y (.slice av dS.m.length cv) (.slice a5 (X.out.length + dS.out.length) c5) (.slice as' Y.stores.length cs')).toArray.toList 0 _ (g7_below HB2.out (by omega) (by omega) HQ.out.2))
              clear hbx hzz hzs
              obtain ⟨dl, hdl⟩ : ∃ dl, dl = (didl Y (.slice av dS.m.length cv) (.slice a5 (X.out.length + dS.out.length) c5) (.slice as' Y.stores.length cs')).toArray := ⟨_, rfl⟩
              rw [← hdl] at hsz41 ht hld hall hbx' HSH HBWW
              have HDL := Lib.hid hdl
              obtain ⟨wz, hwz⟩ : ∃ wz, wz = w20.setCells (w.heap.size + 1 + 1) 0 dl.toList := ⟨_, rfl⟩
              rw [← hwz] at hld HSH HBWW
              have HWZ := Lib.hid hwz
              have HLD := Lib.hid hld
              clear hdl hwz hld
              go_upto_region 17 with (fail)
              go_wp2_with (first | (refine wpList_load_at rfl 64 _ rfl (w.heap.size + 3) 0 rfl dl _ hbx' Try.underlying64 rfl hsz41 ?_) | (refine wpList_store_mid rfl 64 _ _ rfl (w.heap.size + 1 + 1) 0 dl rfl rfl ht hsz41 hall ?_; rw [← HWZ.out]; clear hbx' hsz41 ht hall; simp only [Act.put, List.setIfInBounds_toArray, List.set_cons_zero, List.set_cons_succ]; go_wp2_with fail; refine bodyPost_ret (results_c1 (by rfl) _ (by rfl) HLD.out) rfl ?_; rw [HE.out]; exact ⟨⟨_, _, _, by rw [HDL.out], HSH.out.1, HSH.out.2.1, HSH.out.2.2, HQ.out.1.wf, HQ.out.1.bytes⟩, HBWW.out⟩))
            | false =>
              have hbk' : (st != 0 || pc != plc || own) = false := HBQ.out.symm
              have HE2 : Hid (dF = loop8 bpc bt steps (l.length - (k + 1)) (k + 1) Y) := Lib.hid (by rw [HE.out, HBK.out, if_neg (by rw [hbk']; decide)])
              simp only [Bool.or_eq_false_iff, bne_eq_false_iff_eq] at hbk'
              have HST2 := Lib.hid hbk'.1.1
              have HGO : Hid (Go8 bpc bt steps l.length (k + 1) X0 Y) := Lib.hid ⟨HE2.out.symm.trans HDF.out, by rw [HSS.out.2.2.2.1]; exact HFI.out.ok, by rw [HSS.out.2.2.2.1, ← HSS.out.1, HST2.out], HQ.out.1.wf, HQ.out.1.bytes, by rw [HYM.out.1]; exact HI.out.2.2.ml, HYM.out.2.2.2, HYM.out.2.1, HYM.out.2.2.1⟩
              clear hbk hbk'
              go_wp2_with fail
              go_roundw
              case rel => exact ⟨k + 1, by simp, by omega, Y, _, _, _, Lib.hid ⟨HQ.out.1, HQ.out.2, HGO.out⟩⟩
              case measure => simp [intOf]; omega
      · omega
      · unfold maxLen; omega
      · omega
     | false =>
      have hlt : ¬ (k < l.length ∧ (k : Int) < steps) := fun e => by
        have hgg := HBG.out
        rw [decide_eq_true e.1, decide_eq_true e.2] at hgg
        cases hgg
      have HE : Hid (dF = X) := Lib.hid (by
        rw [HDF.out, ← HI.out.2.2.left]
        by_cases h1 : k < l.length
        · have : l.length - k = (l.length - (k + 1)) + 1 := by omega
          rw [this, loop8, if_neg (by rw [HI.out.2.2.steps]; exact fun e => hlt ⟨h1, e⟩)]
        · have : l.length - k = 0 := by omega
          rw [this]; rfl)
      have HQ : Hid (D8 (w.heap.size + 3) 34 60 wr X vm vo vs ∧ G7 (w.heap.size + 3) w2 (.slice none 0 0) (.slice none 0 0) wr vo vs) := Lib.hid ⟨HI.out.1, HI.out.2.1⟩
      obtain ⟨am', cm', rfl, -⟩ := HI.out.1.mem.open
      obtain ⟨ao', co', rfl⟩ := owns_slice HI.out.1.out
      obtain ⟨as', cs', rfl⟩ := owns_slice HI.out.1.sto
      clear hlt f0 f1 c39 HBW2
      have hbx : At wr (w.heap.size + 3) 0 (didl X (.slice am' X.m.length cm') (.slice ao' X.out.length co') (.slice as' X.stores.length cs')) := HQ.out.1.at_
      have hzs : (didl X (.slice am' X.m.length cm') (.slice ao' X.out.length co') (.slice as' X.stores.length cs')).toArray.size = 41 := didl_size HQ.out.1.wf.len
      have hzz := (HQ.out.2.block (w.heap.size + 1 + 1) (by omega) (by omega) (by intro e; cases e) (by intro e; cases e)).trans HZ2.out
      have hsz41 : (Try.prog.info? 64).map (·.size) = some (didl X (.slice am' X.m.length cm') (.slice ao' X.out.length co') (.slice as' X.stores.length cs')).toArray.size := by rw [hzs]; kernel_rfl
      have ht : wr.there (w.heap.size + 1 + 1) 0 (didl X (.slice am' X.m.length cm') (.slice ao' X.out.length co') (.slice as' X.stores.length cs')).toArray.size := by rw [hzs]; exact there_blk hzz (by decide)
      have hld := load_setCells (P := Try.prog) ht Try.underlying64 rfl hsz41
      have hall := d8_all HQ.out.1
      have hbx' : At wr (w.heap.size + 3) 0 (didl X (.slice am' X.m.length cm') (.slice ao' X.out.length co') (.slice as' X.stores.length cs')).toArray.toList := by simpa using hbx
      have HSH := Lib.hid (d8_shown HQ.out.1 (show w.heap.size + 1 + 1 < w.heap.size + 3 by omega) hzz (didl X (.slice am' X.m.length cm') (.slice ao' X.out.length co') (.slice as' X.stores.length cs')).toArray.toList)
      have HBWW := Lib.hid (below_setCells (b := w.heap.size + 1 + 1) (by omega) (didl X (.slice am' X.m.length cm') (.slice ao' X.out.length co') (.slice as' X.stores.length cs')).toArray.toList 0 _ (g7_below HB2.out (by omega) (by omega) HQ.out.2))
      clear hbx hzz hzs
      obtain ⟨dl, hdl⟩ : ∃ dl, dl = (didl X (.slice am' X.m.length cm') (.slice ao' X.out.length co') (.slice as' X.stores.length cs')).toArray := ⟨_, rfl⟩
      rw [← hdl] at hsz41 ht hld hall hbx' HSH HBWW
      have HDL := Lib.hid hdl
      obtain ⟨wz, hwz⟩ : ∃ wz, wz = wr.setCells (w.heap.size + 1 + 1) 0 dl.toList := ⟨_, rfl⟩
      rw [← hwz] at hld HSH HBWW
      have HWZ := Lib.hid hwz
      have HLD := Lib.hid hld
      clear hdl hwz hld
      go_upto_region 17 with (fail)
      go_wp2_with (first | (refine wpList_load_at rfl 64 _ rfl (w.heap.size + 3) 0 rfl dl _ hbx' Try.underlying64 rfl hsz41 ?_) | (refine wpList_store_mid rfl 64 _ _ rfl (w.heap.size + 1 + 1) 0 dl rfl rfl ht hsz41 hall ?_; rw [← HWZ.out]; clear hbx' hsz41 ht hall; simp only [Act.put, List.setIfInBounds_toArray, List.set_cons_zero, List.set_cons_succ]; go_wp2_with fail; refine bodyPost_ret (results_c1 (by rfl) _ (by rfl) HLD.out) rfl ?_; rw [HE.out]; exact ⟨⟨_, _, _, by rw [HDL.out], HSH.out.1, HSH.out.2.1, HSH.out.2.2, HQ.out.1.wf, HQ.out.1.bytes⟩, HBWW.out⟩))
end Go.Proofs.Ytlfnddmncbkjaab.W
