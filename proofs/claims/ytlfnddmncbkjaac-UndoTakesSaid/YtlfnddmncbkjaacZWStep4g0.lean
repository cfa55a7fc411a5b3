import Derived.Test.YtlfnddmncbkjaacZGD
import Derived.Test.YtlfnddmncbkjaacZWDecode2
set_option linter.unusedVariables false
set_option linter.unusedSimpArgs false
set_option maxRecDepth 100000
set_option maxHeartbeats 4000000
namespace Go.Proofs.Ytlfnddmncbkjaac.W
open Go.RowKit Fb
theorem step4_nofetch (h : Hart) (wf : h.Wf) (v : Value) (l : List Int) (w : World) (hv : Ints .u8 w v l) (hb : Bytes l) (hl : l.length ≤ 4096) (hok : mLoadOk l 13 h.pc = false) :
    Calls Try.prog 34 #[.agg (hcells h), v] w fun e w' => ∃ d', e = .returned (.agg (dcells d')) ∧ DidOf w' d' ((⟨h, l, [], 0, 0⟩ : CoreD).trap 1) ∧ (d'.vm = v ∨ ∀ q, d'.vm.ownBlock = some q → w.heap.size ≤ q) ∧ (∀ q, d'.vo.ownBlock = some q → w.heap.size ≤ q) ∧ Below w.heap.size w w' := by
  obtain ⟨ao, cap, hve, _⟩ := hv.open
  have HV := lI hv
  have wfc : ((⟨h, l, [], 0, 0⟩ : CoreD)).Wf := ⟨wf, hb, by simp, (⟨by decide, by decide⟩ : U32 0), (⟨by decide, by decide⟩ : U32 0), zM, by simp⟩
  obtain ⟨d0, hd0⟩ : ∃ d0, d0 = (⟨h, v, .slice none 0 0, 0, 0⟩ : DidD) := ⟨_, rfl⟩
  have d0_ok : d0.Ok := by rw [hd0]; exact ⟨wf.len, hv.one, rfl⟩
  have HBD := lI (fun W => build_did h wf.len v hv.one ao _ cap hve W)
  rw [← hd0] at HBD
  have hbox : At (w.alloc (.cells (hcells h) 67)) w.heap.size 0 (hlist h) := at_alloc w (hlist h) 67 (0, 0)
  have hsz : (Try.prog.info? 67).map (·.size) = some (hcells h).size := by rw [hcells_size wf]; kernel_rfl
  have HDO : Hid (∀ W, Ints .u8 W v l → DidOf W d0 (⟨h, l, [], 0, 0⟩ : CoreD)) := lI (fun W hW => by rw [hd0]; exact ⟨rfl, hW, Sl.nil _ _, rfl, rfl⟩)
  have HD0E := lI hd0
  subst hve
  clear hv hd0
  go_enter Try.func34, Try.ntmps34
  go_upto_region 1 with (fail)
  show Code.wp _ _ _ _ ((w.alloc (.cells (hcells h) 67)).alloc (.cells (dcells did0) 88))
  have hb1 : At ((w.alloc (.cells (hcells h) 67)).alloc (.cells (dcells did0) 88)) w.heap.size 0 (hlist h) := hbox.below Fb.blw
  have hbz1 : Below w.heap.size w ((w.alloc (.cells (hcells h) 67)).alloc (.cells (dcells did0) 88)) := Fb.blw
  have hs1 : (((w.alloc (.cells (hcells h) 67)).alloc (.cells (dcells did0) 88))).heap.size = w.heap.size + 2 := by simp
  have hR1 := there_begin h (w := w) (tH := 67) (tD := 88)
  generalize ((w.alloc (.cells (hcells h) 67)).alloc (.cells (dcells did0) 88)) = w1 at *
  have HSZ1 := lI hs1
  clear hs1
  go_upto_region 2 with (first | (refine wpList_load_at rfl 67 _ rfl w.heap.size 0 rfl (hcells h) _ hb1 Try.underlying67 rfl hsz ?_) | (refine wpList_buildV rfl 88 _ rfl #[(0, .agg (hcells h)), (1, .slice ao l.length cap)] zD _ (HBD.out _) ?_) | (refine wpList_store_new rfl 88 _ _ rfl w1 _ (dcells d0) rfl rfl rfl (did_size d0_ok) zL (dlist_one d0_ok) ?_))
  have hs1 := HSZ1.out
  have hD := DBox.begin3 (w := w1) (tD := 88) (d := d0) hR1 om
  have hb2 := hb1.below (Below.alloc br (Nat.le_refl _) (.cells (dcells d0) 88))
  have hbz2 : Below w.heap.size w (w1.alloc (.cells (dcells d0) 88)) := hbz1.trans (Below.alloc br om _)
  have hs2 : (w1.alloc (.cells (dcells d0) 88)).heap.size = w.heap.size + 3 := by simp; omega
  rw [hs1] at hD
  have e12 : w1.heap.size = w.heap.size + 2 := hs1
  rw [e12]
  generalize w1.alloc (.cells (dcells d0) 88) = w2 at *
  have hpc := hb2.get (hlist_pc wf)
  simp only [Nat.zero_add] at hpc
  clear hb1 hbz1 hs1 hR1 e12
  have HL := lI (fun W hW => load3_any (.slice ao l.length cap) l 13 h.pc W hW wf.pc hb.getD)
  rw [hok] at HL
  go_upto_region 4 with (go_at_call 40; refine (HL.out _ (HV.out.below hbz2)).mono ?_; rintro e w3 ⟨rfl, rfl⟩)
  have HD := lI hD
  go_wp2_with (first | (refine wpList_load_at rfl 88 _ rfl (w.heap.size + 2) 0 rfl (dcells d0) _ HD.out.at_ Try.underlying88 rfl (did_size d0_ok) ?_))
  refine (trap4_any d0 d0_ok 1 _).mono ?_
  rintro e w3 ⟨rfl, hb3⟩
  have HD2 := lI (HD.out.below om om hb3)
  have d1_ok : (d0.trap 1).Ok := ⟨d0_ok.len, d0_ok.m1, d0_ok.o1⟩
  have hbe := hbz2.trans (hb3.mono om)
  clear hb3 hD hpc
  have ht : (w3).there (w.heap.size + 1) 0 (dcells (d0.trap 1)).size := by rw [dcells_size d1_ok]; exact HD2.out.there
  have hld := load_setCells (P := Try.prog) ht Try.underlying88 rfl (did_size d1_ok)
  go_wp2_with (first | (refine wpList_store_mid rfl 88 _ _ rfl (w.heap.size + 1) 0 (dcells (d0.trap 1)) rfl rfl ht (did_size d1_ok) (dlist_all d1_ok) ?_))
  refine bodyPost_ret (results_c1 zE _ zE hld) rfl ⟨_, rfl, (HDO.out _ (HV.out.below (below_setCells om _ _ _ hbe))).trap 1, .inl ?_, ?_, below_setCells om _ _ _ hbe⟩
  · rw [HD0E.out]; rfl
  · rw [HD0E.out]; intro q e; cases e
end Go.Proofs.Ytlfnddmncbkjaac.W
