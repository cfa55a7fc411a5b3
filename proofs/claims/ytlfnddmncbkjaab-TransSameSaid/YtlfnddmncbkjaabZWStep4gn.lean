import Derived.Test.YtlfnddmncbkjaabZZH
import Derived.Test.YtlfnddmncbkjaabZWDecode2
set_option linter.unusedVariables false
set_option linter.unusedSimpArgs false
set_option maxRecDepth 100000
set_option maxHeartbeats 4000000
namespace Go.Proofs.Ytlfnddmncbkjaab.W
open Go.RowKit Fb
theorem step4_nodec (h : Hart) (wf : h.Wf) (v : Value) (l : List Int) (w : World) (hv : Ints .u8 w v l) (hb : Bytes l) (hl : l.length ≤ 4096) (hok : mLoadOk l 13 h.pc = true) (hdec : dec (mLoad l 13 h.pc) = none) :
    Calls Try.prog 41 #[.agg (hcells h), v] w fun e w' => ∃ d', e = .returned (.agg (dcells d')) ∧ DidOf w' d' ((⟨h, l, [], 0, 0⟩ : CoreD).trap 2) ∧ (d'.vm = v ∨ ∀ q, d'.vm.ownBlock = some q → w.heap.size ≤ q) ∧ (∀ q, d'.vo.ownBlock = some q → w.heap.size ≤ q) ∧ Below w.heap.size w w' := by
  obtain ⟨ao, cap, hve, _⟩ := hv.open
  have HV := Lib.hid hv
  have wfc : ((⟨h, l, [], 0, 0⟩ : CoreD)).Wf := ⟨wf, hb, by simp, (⟨by decide, by decide⟩ : U32 0), (⟨by decide, by decide⟩ : U32 0), (by show l.length ≤ _; omega), by simp⟩
  obtain ⟨d0, hd0⟩ : ∃ d0, d0 = (⟨h, v, .slice none 0 0, 0, 0⟩ : DidD) := ⟨_, rfl⟩
  have d0_ok : d0.Ok := by rw [hd0]; exact ⟨wf.len, hv.one, rfl⟩
  have HBD := Lib.hid (fun W => build_did h wf.len v hv.one ao _ cap hve W)
  rw [← hd0] at HBD
  have hbox : At (w.alloc (.cells (hcells h) 57)) w.heap.size 0 (hlist h) := at_alloc w (hlist h) 57 (0, 0)
  have hsz : (Try.prog.info? 57).map (·.size) = some (hcells h).size := by rw [hcells_size wf]; kernel_rfl
  have HDO : Hid (∀ W, Ints .u8 W v l → DidOf W d0 (⟨h, l, [], 0, 0⟩ : CoreD)) := Lib.hid (fun W hW => by rw [hd0]; exact ⟨rfl, hW, Sl.nil _ _, rfl, rfl⟩)
  have HD0E := Lib.hid hd0
  subst hve
  clear hv hd0
  go_enter Try.func41, Try.ntmps41
  go_upto_region 1 with (fail)
  show Code.wp _ _ _ _ ((w.alloc (.cells (hcells h) 57)).alloc (.cells (dcells did0) 76))
  have hb1 : At ((w.alloc (.cells (hcells h) 57)).alloc (.cells (dcells did0) 76)) w.heap.size 0 (hlist h) := hbox.below Fb.blw
  have hbz1 : Below w.heap.size w ((w.alloc (.cells (hcells h) 57)).alloc (.cells (dcells did0) 76)) := Fb.blw
  have hs1 : (((w.alloc (.cells (hcells h) 57)).alloc (.cells (dcells did0) 76))).heap.size = w.heap.size + 2 := by simp
  have hR1 := there_begin h (w := w) (tH := 57) (tD := 76)
  generalize ((w.alloc (.cells (hcells h) 57)).alloc (.cells (dcells did0) 76)) = w1 at *
  have HSZ1 := Lib.hid hs1
  clear hs1
  go_upto_region 2 with (first | (refine wpList_load_at rfl 57 _ rfl w.heap.size 0 rfl (hcells h) _ hb1 Try.underlying57 rfl hsz ?_) | (refine wpList_buildV rfl 76 _ rfl #[(0, .agg (hcells h)), (1, .slice ao l.length cap)] (by first | rfl | (simp [Act.eval]; done)) _ (HBD.out _) ?_) | (refine wpList_store_new rfl 76 _ _ rfl w1 _ (dcells d0) rfl rfl rfl (did_size d0_ok) (by rw [dcells_size d0_ok]; rfl) (dlist_one d0_ok) ?_))
  have hs1 := HSZ1.out
  have hD := DBox.begin3 (w := w1) (tD := 76) (d := d0) hR1 (by omega)
  have hb2 := hb1.below (Below.alloc (Below.refl _ _) (Nat.le_refl _) (.cells (dcells d0) 76))
  have hbz2 : Below w.heap.size w (w1.alloc (.cells (dcells d0) 76)) := hbz1.trans (Below.alloc (Below.refl _ _) (by omega) _)
  have hs2 : (w1.alloc (.cells (dcells d0) 76)).heap.size = w.heap.size + 3 := by simp; omega
  rw [hs1] at hD
  have e12 : w1.heap.size = w.heap.size + 2 := hs1
  rw [e12]
  generalize w1.alloc (.cells (dcells d0) 76) = w2 at *
  have hpc := hb2.get (hlist_pc wf)
  simp only [Nat.zero_add] at hpc
  clear hb1 hbz1 hs1 hR1 e12
  have HL := Lib.hid (fun W hW => load3_any (.slice ao l.length cap) l 13 h.pc W hW wf.pc hb.getD)
  rw [hok] at HL
  have HDc := Lib.hid (fun W => decode2_any (mLoad l 13 h.pc) W (mLoad_u13 l h.pc wf.pc hb.getD))
  rw [hdec] at HDc
  simp only [Option.getD_none, Option.isSome_none, icells] at HDc
  go_upto_region 5 with (go_at_call 76; refine (HL.out _ (HV.out.below hbz2)).mono ?_; rintro e w3 ⟨rfl, rfl⟩)
  go_wp2_with fail
  refine (HDc.out _).mono ?_
  rintro e w3 ⟨rfl, hb3⟩
  have hs3 := hb3.size
  have HD := Lib.hid ((hD.below (by omega) (by omega) hb3).below (w' := w3.alloc (.cells #[.int .i64 0, .int .i64 0, .int .i64 0, .int .i64 0, .int .i32 0] 38)) (by omega) (by omega) (Below.alloc (Below.refl _ _) (Nat.le_refl _) _))
  have hbz3 : Below w.heap.size w (w3.alloc (.cells #[.int .i64 0, .int .i64 0, .int .i64 0, .int .i64 0, .int .i32 0] 38)) := (hbz2.trans (hb3.mono (by omega))).trans (Below.alloc (Below.refl _ _) (by omega) _)
  clear hb3 hD hpc
  go_wp2_with (first | (refine wpList_load_at rfl 76 _ rfl (w.heap.size + 2) 0 rfl (dcells d0) _ HD.out.at_ Try.underlying76 rfl (did_size d0_ok) ?_))
  refine (trap4_any d0 d0_ok 2 _).mono ?_
  rintro e w4 ⟨rfl, hb4⟩
  have hs4 := hb4.size
  have HD2 := Lib.hid (HD.out.below (by simp; omega) (by simp; omega) hb4)
  have d1_ok : (d0.trap 2).Ok := ⟨d0_ok.len, d0_ok.m1, d0_ok.o1⟩
  have hbe := hbz3.trans (hb4.mono (by simp; omega))
  clear hb4
  have ht : (w4).there (w.heap.size + 1) 0 (dcells (d0.trap 2)).size := by rw [dcells_size d1_ok]; exact HD2.out.there
  have hld := load_setCells (P := Try.prog) ht Try.underlying76 rfl (did_size d1_ok)
  go_wp2_with (first | (refine wpList_store_mid rfl 76 _ _ rfl (w.heap.size + 1) 0 (dcells (d0.trap 2)) rfl rfl ht (did_size d1_ok) (dlist_all d1_ok) ?_))
  refine bodyPost_ret (results_c1 (by rfl) _ (by rfl) hld) rfl ⟨_, rfl, (HDO.out _ (HV.out.below (below_setCells (by omega) _ _ _ hbe))).trap 2, .inl ?_, ?_, below_setCells (by omega) _ _ _ hbe⟩
  · rw [HD0E.out]; rfl
  · rw [HD0E.out]; intro q e; cases e
end Go.Proofs.Ytlfnddmncbkjaab.W
