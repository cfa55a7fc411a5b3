import Derived.Test.YtlfnddmncbkjaabZWSteps8
import Derived.Test.YtlfnddmncbkjaabZWTrans4
import Derived.Test.YtlfnddmncbkjaabZWMay7
import Derived.Test.YtlfnddmncbkjaabZWMay
import Derived.Test.YtlfnddmncbkjaabZWBlock6
import Derived.Test.YtlfnddmncbkjaabZWSame7
import Derived.Test.YtlfnddmncbkjaabZWRun7h
import Derived.Test.YtlfnddmncbkjaabZMA
set_option linter.unusedVariables false
set_option linter.unusedSimpArgs false
set_option maxRecDepth 100000
set_option maxHeartbeats 4000000
namespace Go.Proofs.Ytlfnddmncbkjaab.TransSameLaw
open Go.RowKit Fb W
theorem loop8_len (bf bt st : Int) : ∀ (n k : Nat) (d : RunD), d.core0.Wf → (loop8 bf bt st n k d).h.regs.length = 32
  | 0, _, d, h => h.h.len
  | n + 1, k, d, h => by
    have h2 : (goS d.core0).Wf := goS_wf h (by show ([] : List Int).length < _; simp)
    have h3 : (next8 d).core0.Wf := ⟨h2.h, h2.m, (by intro x hx; cases hx), u32_0, u32_0, h2.mlen, by show ([] : List Int).length ≤ _; simp⟩
    unfold loop8
    split
    · split
      · exact h2.h.len
      · exact loop8_len bf bt st n (k + 1) _ h3
    · exact h.h.len
theorem dF_len {dF : RunD} {p bt st : Int} {n : Nat} {h : Hart} {m : List Int} (e : dF = loop8 p bt st n 0 (run0 h m p bt)) (wf : h.Wf) (hb : Bytes m) (hl : m.length ≤ 4096) (_ : h.ok = true) (_ : h.state = 0) : dF.h.regs.length = 32 := by
  rw [e]
  exact loop8_len p bt st n 0 _ ⟨wf, hb, (by intro x hx; cases hx), u32_0, u32_0, by show m.length ≤ _; omega, by show ([] : List Int).length ≤ _; simp⟩
theorem didl_one9 {d : RunD} (a1 : Option Addr) (n1 c1 : Nat) (a2 : Option Addr) (n2 c2 : Nat) (a3 : Option Addr) (n3 c3 : Nat) : ∀ v ∈ (didl d (.slice a1 n1 c1) (.slice a2 n2 c2) (.slice a3 n3 c3)).toArray.toList, v.oneCell' = true := by
  intro v hv
  have hv' : v ∈ didl d (.slice a1 n1 c1) (.slice a2 n2 c2) (.slice a3 n3 c3) := by simpa using hv
  rcases List.mem_append.1 hv' with h1 | h1
  · exact hlist_one d.h v (by simpa [hcells] using h1)
  · simp only [List.mem_cons, List.not_mem_nil, or_false] at h1
    rcases h1 with rfl | rfl | rfl | rfl <;> rfl
theorem walk (h : Hart) (wf : h.Wf) (vm : Value) (m : List Int) (steps : Int) (w : World) (hm : Ints .u8 w vm m) (hb : Bytes m) (hl : m.length ≤ 140737488351232) (hst : i64ok steps) :
    Calls Try.prog 9 #[.agg (hcells h), vm, .int .i64 steps] w fun e w' => e = .returned (.bool true) ∧ Below w.heap.size w w' := by
  obtain ⟨am, cm, rfl, -⟩ := hm.open
  obtain ⟨w1, hw1⟩ : ∃ w1, w1 = w.alloc (.cells (hcells h) 57) := ⟨_, rfl⟩
  have hb1 : Below w.heap.size w w1 := by rw [hw1]; exact Fb.blw
  have hs1 : w1.heap.size = w.heap.size + 1 := by rw [hw1]; simp
  have hat : At w1 w.heap.size 0 (hlist h) := by rw [hw1]; exact at_alloc w (hlist h) 57 (0, 0)
  have hcsz : (Try.prog.info? 57).map (·.size) = some (hcells h).size := by rw [hcells_size wf]; kernel_rfl
  have HM6 := Lib.hid (make6_any (.slice am m.length cm) m h.pc w1 (hm.below hb1) wf.pc hb.getD hl)
  have HM4 := Lib.hid (fun W => may4_any h wf W)
  have HIS := Lib.hid (makeS_is m h.pc)
  have hp1 : m.length ≤ 4096 → (makeS m h.pc).1 = h.pc := fun e => by unfold makeS; rw [if_neg (by omega)]
  have hl16 : (makeS m h.pc).2.length ≤ 16 := by unfold makeS; split; exact Nat.zero_le _; exact rowS_len m 16 h.pc
  have HEQ : Hid (h.ok = true → h.state = 0 → m.length ≤ 4096 → 0 ≤ steps → (makeS m h.pc).2 ≠ [] → Eq8 (loop8 h.pc (Fb.u32 (h.pc + 4 * (makeS m h.pc).2.length)) steps (makeS m h.pc).2.length 0 (run0 h m h.pc (Fb.u32 (h.pc + 4 * (makeS m h.pc).2.length)))) (playR (mkM h.pc (makeS m h.pc).2) h m h.pc (Fb.u32 (h.pc + 4 * (makeS m h.pc).2.length)) steps)) := Lib.hid (fun e1 e2 e3 e4 e5 => steps8 h m steps wf e1 e2 hb e3 e4 e5)
  obtain ⟨p6, hp6⟩ : ∃ p, p = (makeS m h.pc).1 := ⟨_, rfl⟩
  obtain ⟨l6, hl6⟩ : ∃ l, l = (makeS m h.pc).2 := ⟨_, rfl⟩
  rw [← hl6] at HIS hl16 HEQ HM6
  rw [← hp6] at hp1 HM6
  obtain ⟨pc, hpc⟩ : ∃ pc, pc = h.pc := ⟨_, rfl⟩
  have c32 := hat.get (hlist_pc wf)
  have c35 := hat.get (hlist_state wf)
  simp only [Nat.zero_add] at c32 c35
  rw [← hpc] at c32 HM6 hp1
  obtain ⟨st, hstd⟩ : ∃ st, st = h.state := ⟨_, rfl⟩
  rw [← hstd] at c35
  obtain ⟨hk, hhk⟩ : ∃ hk, hk = h.ok := ⟨_, rfl⟩
  rw [← hhk] at HM4
  have HHK := Lib.hid hhk
  have HSTD := Lib.hid hstd
  have HPC := Lib.hid hpc
  have HW1 := Lib.hid hw1
  have HB1 := Lib.hid hb1
  have HM := Lib.hid hm
  have HP1 := Lib.hid hp1
  have ls0 : w.heap.size < w1.heap.size := by omega
  have HWF := Lib.hid wf
  have HBB := Lib.hid hb
  have HL16 := Lib.hid hl16
  have hcs : hk = false ∨ (hk = true ∧ ¬ st = 0) ∨ (hk = true ∧ st = 0 ∧ (4096 : Int) < m.length) ∨ (hk = true ∧ st = 0 ∧ ¬ (4096 : Int) < m.length ∧ steps < 0) ∨ (hk = true ∧ st = 0 ∧ ¬ (4096 : Int) < m.length ∧ ¬ steps < 0 ∧ 400 < steps) ∨ (hk = true ∧ st = 0 ∧ ¬ (4096 : Int) < m.length ∧ ¬ steps < 0 ∧ ¬ 400 < steps ∧ l6.length = 0) ∨ (hk = true ∧ st = 0 ∧ ¬ (4096 : Int) < m.length ∧ ¬ steps < 0 ∧ ¬ 400 < steps ∧ 0 < l6.length) := by
    cases hk with
    | false => exact .inl rfl
    | true =>
      by_cases e1 : st = 0
      · by_cases e2 : (4096 : Int) < m.length
        · exact .inr (.inr (.inl ⟨rfl, e1, e2⟩))
        · by_cases e3 : steps < 0
          · exact .inr (.inr (.inr (.inl ⟨rfl, e1, e2, e3⟩)))
          · by_cases e4 : 400 < steps
            · exact .inr (.inr (.inr (.inr (.inl ⟨rfl, e1, e2, e3, e4⟩))))
            · by_cases e5 : l6.length = 0
              · exact .inr (.inr (.inr (.inr (.inr (.inl ⟨rfl, e1, e2, e3, e4, e5⟩)))))
              · exact .inr (.inr (.inr (.inr (.inr (.inr ⟨rfl, e1, e2, e3, e4, by omega⟩)))))
      · exact .inr (.inl ⟨rfl, e1⟩)
  have hl' := hl
  clear hw1 hb1 hm hb hl wf hp6 hl6 hpc hstd hhk hp1 hl16
  go_enter Try.func9, Try.ntmps9
  go_upto_region 1 with (fail)
  show Code.wp _ _ _ _ (w.alloc (.cells (hcells h) 57))
  rw [← HW1.out]
  go_wp2_with fail
  refine HM6.out.mono ?_
  rintro e w2 ⟨⟨v6, rfl, h6⟩, hb2⟩
  obtain ⟨a6, c6, rfl, -⟩ := h6.open (fun _ _ => rfl) (by omega)
  obtain ⟨w3, hw3⟩ : ∃ w3, w3 = w2.alloc (.cells #[.int .u32 p6, .slice a6 l6.length c6] 47) := ⟨_, rfl⟩
  have hb3 : Below w2.heap.size w2 w3 := by rw [hw3]; exact Fb.blw
  have hs3 : w2.heap.size < w3.heap.size := by rw [hw3]; simp
  have d0 : (w3).cell? ⟨w2.heap.size, 0, none⟩ = some (.int .u32 p6) := by rw [hw3]; go_cell
  have d1 : (w3).cell? ⟨w2.heap.size, 1, none⟩ = some (.slice a6 l6.length c6) := by rw [hw3]; go_cell
  have HB3 : Hid (Below w1.heap.size w1 w3) := Lib.hid (hb2.trans (hb3.mono hb2.size))
  have hat3 := hat.below HB3.out
  have s35 := (HB3.out.cell (p := ⟨w.heap.size, 35, none⟩) ls0).trans c35
  have H63 := Lib.hid (Sl.below h6 hb3)
  have HAT := Lib.hid hat
  have HW3 := Lib.hid hw3
  have l3 : w.heap.size < w3.heap.size := lt_of_cell s35
  clear hat c32 c35 h6 hb2 hb3 hw3
  go_upto_region 2 with (fail)
  rw [← HW3.out]
  go_wp2_with (first | (refine wpList_load_at rfl 57 _ rfl w.heap.size 0 rfl (hcells h) _ hat3 Try.underlying57 rfl hcsz ?_))
  refine (HM4.out _).mono ?_
  rintro e w4 ⟨rfl, hb4⟩
  have t35 := (hb4.cell (p := ⟨w.heap.size, 35, none⟩) l3).trans s35
  have f0 : (w4).cell? ⟨w2.heap.size, 0, none⟩ = some (.int .u32 p6) := (hb4.cell (p := ⟨w2.heap.size, 0, none⟩) (hs3)).trans d0
  have f1 : (w4).cell? ⟨w2.heap.size, 1, none⟩ = some (.slice a6 l6.length c6) := (hb4.cell (p := ⟨w2.heap.size, 1, none⟩) (hs3)).trans d1
  have HB4 : Hid (Below w1.heap.size w1 w4) := Lib.hid (HB3.out.trans (hb4.mono HB3.out.size))
  have HBF := Lib.hid (HB1.out.trans (HB4.out.mono HB1.out.size))
  have HB34 := Lib.hid hb4
  have hs4 : w2.heap.size < w4.heap.size := lt_of_cell f0
  clear hat3 s35 d0 d1 hb4
  rcases hcs with rfl | ⟨rfl, e1⟩ | ⟨rfl, rfl, e2⟩ | ⟨rfl, rfl, e2, e3⟩ | ⟨rfl, rfl, e2, e3, e4⟩ | ⟨rfl, rfl, e2, e3, e4, e5⟩ | ⟨rfl, rfl, e2, e3, e4, e5⟩
  · go_wp2_with fail
    go_ret
    exact ⟨rfl, HBF.out⟩
  · have j1 : (st != 0) = true := by simpa using e1
    have j2 : (st == 0) = false := by simpa using e1
    have j3 : decide (st = 0) = false := decide_eq_false e1
    go_wp2_with fail
    go_ret
    exact ⟨rfl, HBF.out⟩
  · go_wp2_with fail
    go_ret
    exact ⟨rfl, HBF.out⟩
  · go_wp2_with fail
    go_ret
    exact ⟨rfl, HBF.out⟩
  · go_wp2_with fail
    go_ret
    exact ⟨rfl, HBF.out⟩
  · rw [e5] at f1
    go_wp2_with fail
    go_ret
    exact ⟨rfl, HBF.out⟩
  · have hne : l6 ≠ [] := by intro e; rw [e] at e5; cases e5
    have hml : m.length ≤ 4096 := by omega
    have hpp : p6 = pc := HP1.out hml
    have hpw : p6 = h.pc := hpp.trans HPC.out
    have HEQ2 := Lib.hid (HEQ.out HHK.out.symm HSTD.out.symm hml (by omega) hne)
    rw [← hpw] at HEQ2
    have hup : U32 p6 := by rw [hpw]; exact HWF.out.pc
    have H64 := Lib.hid (Sl.below H63.out HB34.out)
    have HTM := Lib.hid (tmake_any (.slice a6 l6.length c6) l6 p6 w4 H64.out (fun i hi => (HIS.out i hi).2))
    have HLC : Hid ((mkM p6 l6).length ≤ 200 ∧ mayL (mkM p6 l6) = true ∧ ∀ m ∈ mkM p6 l6, m.Ok) := Lib.hid ⟨by have := mkM_may p6 l6; unfold mayL at this; rw [Bool.and_eq_true, decide_eq_true_eq] at this; exact this.1, mkM_may _ _, mkM_ok _ _⟩
    obtain ⟨lc, hlc⟩ : ∃ lc, lc = mkM p6 l6 := ⟨_, rfl⟩
    rw [← hlc] at HLC HTM HEQ2
    obtain ⟨bt, hbt⟩ : ∃ bt, bt = Fb.u32 (p6 + 4 * (l6.length : Int)) := ⟨_, rfl⟩
    rw [← hbt] at HEQ2
    have HBTd := Lib.hid hbt
    have HBT : Hid ((p6 + 4 * (l6.length : Int)) % 4294967296 = bt) := Lib.hid (by rw [hbt]; rfl)
    have hut : U32 bt := by rw [hbt]; exact u32_ok _
    obtain ⟨dF, hdF⟩ : ∃ dF, dF = loop8 p6 bt steps l6.length 0 (run0 h m p6 bt) := ⟨_, rfl⟩
    rw [← hdF] at HEQ2
    have HDF := Lib.hid hdF
    have HOKH : Hid (h.ok = true ∧ h.state = 0) := Lib.hid ⟨HHK.out.symm, HSTD.out.symm⟩
    have hln16 := HL16.out
    clear hlc hbt hdF hpp hpw hne
    have j1 : ((l6.length : Int) == 0) = false := by rw [beq_eq_false_iff_ne]; omega
    have j2 : decide ((l6.length : Int) = 0) = false := decide_eq_false (by omega)
    have j3 : decide ((4096 : Int) < m.length) = false := decide_eq_false (by omega)
    have j4 : decide (steps < 0) = false := decide_eq_false (by omega)
    have j5 : decide (400 < steps) = false := decide_eq_false (by omega)
    go_upto_region 4 with (fail)
    clear t35
    go_wp2_with fail
    refine HTM.out.mono ?_
    rintro e w5 ⟨⟨vc, rfl, hc⟩, hb5⟩
    obtain ⟨ac, cc, rfl, -⟩ := hc.open (fun _ _ => rfl) (by omega)
    have HC5 := Lib.hid hc
    have HMA := Lib.hid (may7_any (.slice ac lc.length cc) lc w5 hc HLC.out.2.2)
    rw [HLC.out.2.1] at HMA
    have HB5 : Hid (Below w4.heap.size w4 w5) := Lib.hid hb5
    have g0 : (w5).cell? ⟨w2.heap.size, 0, none⟩ = some (.int .u32 p6) := (hb5.cell (p := ⟨w2.heap.size, 0, none⟩) (hs4)).trans f0
    have g1 : (w5).cell? ⟨w2.heap.size, 1, none⟩ = some (.slice a6 l6.length c6) := (hb5.cell (p := ⟨w2.heap.size, 1, none⟩) (hs4)).trans f1
    have hs5 : w2.heap.size < w5.heap.size := lt_of_cell g0
    clear hc hb5 f0 f1
    go_wp2_with fail
    refine HMA.out.mono ?_
    rintro e w6 ⟨rfl, hb6⟩
    have HB6 : Hid (Below w4.heap.size w4 w6) := Lib.hid (HB5.out.trans (hb6.mono HB5.out.size))
    have k0 : (w6).cell? ⟨w2.heap.size, 0, none⟩ = some (.int .u32 p6) := (hb6.cell (p := ⟨w2.heap.size, 0, none⟩) (hs5)).trans g0
    have k1 : (w6).cell? ⟨w2.heap.size, 1, none⟩ = some (.slice a6 l6.length c6) := (hb6.cell (p := ⟨w2.heap.size, 1, none⟩) (hs5)).trans g1
    obtain ⟨w7, hw7⟩ : ∃ w7, w7 = w6.alloc (.cells #[.int .u32 p6, .int .u32 bt] 60) := ⟨_, rfl⟩
    have hb7 : Below w6.heap.size w6 w7 := by rw [hw7]; exact Fb.blw
    have hs6 : w2.heap.size < w6.heap.size := lt_of_cell k0
    have n0 : (w7).cell? ⟨w2.heap.size, 0, none⟩ = some (.int .u32 p6) := (hb7.cell (p := ⟨w2.heap.size, 0, none⟩) (hs6)).trans k0
    have n1 : (w7).cell? ⟨w2.heap.size, 1, none⟩ = some (.slice a6 l6.length c6) := (hb7.cell (p := ⟨w2.heap.size, 1, none⟩) (hs6)).trans k1
    have q0 : w7.cell? ⟨w6.heap.size, 0, none⟩ = some (.int .u32 p6) := by rw [hw7]; go_cell
    have q1 : w7.cell? ⟨w6.heap.size, 1, none⟩ = some (.int .u32 bt) := by rw [hw7]; go_cell
    have HB57 : Hid (Below w5.heap.size w5 w7) := Lib.hid (hb6.trans (hb7.mono hb6.size))
    have HB7 : Hid (Below w4.heap.size w4 w7) := Lib.hid (HB6.out.trans (hb7.mono HB6.out.size))
    have HB17 : Hid (Below w1.heap.size w1 w7) := Lib.hid (HB4.out.trans (HB7.out.mono HB4.out.size))
    have hat7 := HAT.out.below HB17.out
    have HPY := Lib.hid (play7_any (.slice ac lc.length cc) lc h (.slice am m.length cm) m p6 bt steps w7 (Sl.below HC5.out HB57.out) HLC.out.2.1 HLC.out.2.2 HWF.out ((HM.out.below HB1.out).below HB17.out) HBB.out hl' hup hut hst)
    have HST8 := Lib.hid (fun W (hW : Below w7.heap.size w7 W) => steps8_any (.slice a6 l6.length c6) l6 p6 h (.slice am m.length cm) m steps W (Sl.below (Sl.below H64.out HB7.out) hW) HL16.out hup HWF.out HOKH.out.1 HOKH.out.2 (((HM.out.below HB1.out).below HB17.out).below hW) HBB.out hml hst dF (by rw [HDF.out, HBTd.out]))
    obtain ⟨pl, hpl⟩ : ∃ pl, pl = playR lc h m p6 bt steps := ⟨_, rfl⟩
    rw [← hpl] at HPY HEQ2
    have HW7 := Lib.hid hw7
    have hs7 : w2.heap.size < w7.heap.size := lt_of_cell n0
    have hl67 : w6.heap.size < w7.heap.size := lt_of_cell q0
    clear hb6 hb7 hw7 g0 g1 hpl
    go_upto_region 8 with (fail)
    try rw [HBT.out]
    rw [← HW7.out]
    clear k0 k1
    go_wp2_with (first | (refine wpList_load_at rfl 57 _ rfl w.heap.size 0 rfl (hcells h) _ hat7 Try.underlying57 rfl hcsz ?_))
    refine HPY.out.mono ?_
    rintro e w8 ⟨⟨vm', vo', vs', rfl, im, io, is⟩, hb8⟩
    obtain ⟨a1, c1, rfl, -⟩ := im.open
    obtain ⟨a2, c2, rfl, -⟩ := io.open
    obtain ⟨a3, c3, rfl, -⟩ : ∃ a c, vs' = .slice a pl.stores.length c ∧ True := by
      obtain ⟨_, ao, cap, e, -⟩ := is
      exact ⟨ao, cap, e, trivial⟩
    obtain ⟨z, hz⟩ : ∃ z, z = (didl pl (.slice a1 pl.m.length c1) (.slice a2 pl.out.length c2) (.slice a3 pl.stores.length c3)).toArray := ⟨_, rfl⟩
    obtain ⟨w9, hw9⟩ : ∃ w9, w9 = w8.alloc (.cells z 64) := ⟨_, rfl⟩
    have hb9 : Below w8.heap.size w8 w9 := by rw [hw9]; exact Fb.blw
    have HB79 : Hid (Below w7.heap.size w7 w9) := Lib.hid (hb8.trans (hb9.mono hb8.size))
    have hd9 : At w9 w8.heap.size 0 z.toList := by rw [hw9]; exact at_alloc w8 z.toList 64 (0, 0)
    have HI9 := Lib.hid (And.intro (im.below hb9) (And.intro (io.below hb9) (Sl.below is hb9)))
    have HZ := Lib.hid hz
    have HS9 := Lib.hid (HST8.out w9 HB79.out)
    have hat9 := hat7.below HB79.out
    have o0 : (w9).cell? ⟨w2.heap.size, 0, none⟩ = some (.int .u32 p6) := (HB79.out.cell (p := ⟨w2.heap.size, 0, none⟩) (hs7)).trans n0
    have o1 : (w9).cell? ⟨w2.heap.size, 1, none⟩ = some (.slice a6 l6.length c6) := (HB79.out.cell (p := ⟨w2.heap.size, 1, none⟩) (hs7)).trans n1
    have HW9 := Lib.hid hw9
    have hpw : pl.h.regs.length = 32 := by rw [← HEQ2.out.h]; exact (dF_len HDF.out HWF.out HBB.out hml HOKH.out.1 HOKH.out.2)
    have hzs : z.size = 41 := by rw [hz]; exact didl_size hpw
    have hszz : (Try.prog.info? 64).map (·.size) = some z.size := by rw [hzs]; kernel_rfl
    have hzo : Hid (∀ v ∈ z.toList, v.oneCell' = true) := Lib.hid (by rw [hz]; exact didl_one9 _ _ _ _ _ _ _ _ _)
    clear hb8 hb9 hw9 im io is n0 n1 q0 q1 hat7
    rw [← hz]
    clear hz
    go_upto_region 9 with (first | (refine wpList_store_new rfl 64 _ _ rfl w8 _ z rfl rfl rfl hszz (by rw [hzs]; rfl) hzo.out ?_))
    rw [← HW9.out]
    go_wp2_with (first | (refine wpList_load_at rfl 57 _ rfl w.heap.size 0 rfl (hcells h) _ hat9 Try.underlying57 rfl hcsz ?_))
    refine HS9.out.mono ?_
    rintro e w10 ⟨⟨vm2, vo2, vs2, rfl, jm, jo, js, wfd, bd⟩, hb10⟩
    have eqh := HEQ2.out.h
    have eqm := HEQ2.out.m
    have eqo := HEQ2.out.out
    have eqs := HEQ2.out.stores
    rw [eqm] at jm bd
    rw [eqo] at jo
    rw [eqs] at js
    rw [eqh] at wfd
    have ed : didl dF vm2 vo2 vs2 = didl pl vm2 vo2 vs2 := by unfold didl; rw [eqh, HEQ2.out.steps]
    rw [ed]
    obtain ⟨b1, d1, rfl, -⟩ := jm.open
    obtain ⟨b2, d2, rfl, -⟩ := jo.open
    obtain ⟨b3, d3, rfl, -⟩ : ∃ a c, vs2 = .slice a pl.stores.length c ∧ True := by
      obtain ⟨_, ao, cap, e, -⟩ := js
      exact ⟨ao, cap, e, trivial⟩
    obtain ⟨y, hy⟩ : ∃ y, y = (didl pl (.slice b1 pl.m.length d1) (.slice b2 pl.out.length d2) (.slice b3 pl.stores.length d3)).toArray := ⟨_, rfl⟩
    have hys : y.size = 41 := by rw [hy]; exact didl_size hpw
    have hszy : (Try.prog.info? 64).map (·.size) = some y.size := by rw [hys]; kernel_rfl
    have hyo : Hid (∀ v ∈ y.toList, v.oneCell' = true) := Lib.hid (by rw [hy]; exact didl_one9 _ _ _ _ _ _ _ _ _)
    obtain ⟨w11, hw11⟩ : ∃ w11, w11 = w10.alloc (.cells y 64) := ⟨_, rfl⟩
    have hb11 : Below w10.heap.size w10 w11 := by rw [hw11]; exact Fb.blw
    have hb911 : Below w9.heap.size w9 w11 := hb10.trans (hb11.mono hb10.size)
    have hd11 : At w11 w8.heap.size 0 z.toList := hd9.below hb911
    have he11 : At w11 w10.heap.size 0 y.toList := by rw [hw11]; exact at_alloc w10 y.toList 64 (0, 0)
    have HBF2 : Hid (Below w.heap.size w w11) := Lib.hid (HB1.out.trans ((HB17.out.trans ((HB79.out.trans (hb911.mono HB79.out.size)).mono HB17.out.size)).mono HB1.out.size))
    have HSM := Lib.hid (same7_any pl _ _ _ _ _ _ w11 wfd bd (HI9.out.1.below hb911) (jm.below hb11) (HI9.out.2.1.below hb911) (jo.below hb11) (Sl.below HI9.out.2.2 hb911) (Sl.below js hb11))
    rw [← HZ.out, ← hy] at HSM
    have HW11 := Lib.hid hw11
    rw [← hy]
    clear hb10 hw11 hb11 hb911 hat9 jm jo js hy o0 o1 eqh eqm eqo eqs ed wfd bd hpw
    go_upto_region 10 with (first | (refine wpList_store_new rfl 64 _ _ rfl w10 _ y rfl rfl rfl hszy (by rw [hys]; rfl) hyo.out ?_))
    rw [← HW11.out]
    go_wp2_with (first | (refine wpList_load_at rfl 64 _ rfl w8.heap.size 0 rfl z _ hd11 Try.underlying64 rfl hszz ?_) | (refine wpList_load_at rfl 64 _ rfl w10.heap.size 0 rfl y _ he11 Try.underlying64 rfl hszy ?_))
    refine HSM.out.mono ?_
    rintro e w12 ⟨rfl, hb12⟩
    go_wp2_with fail
    go_ret
    exact ⟨rfl, HBF2.out.trans (hb12.mono HBF2.out.size)⟩
open RowB in
theorem lifted (os : Os) (started : os.Started) (H : Type) (enc : TypeId × Value → H) :
    ReturnsInHanded {} Try.checked os 9 .any (Rows.transSameSpec.pre6 enc Try.prog Try.f9 Rows.transSameRow.domain false) (Rows.transSameSpec.post enc Try.prog Try.f9 false true false false) := by
  refine RowB.law_lifted (C := Try.checked) (tb := 4) (by kernel_rfl) started (by kernel_rfl) (by kernel_rfl)
    (ChangeSpec.witness6 (enc := enc) (C := Try.checked) false ⟨#[], #[.agg (Array.replicate 32 (.int .u32 0) ++ #[.int .u32 0, .bool false, .int .u32 0, .int .i64 0, .int .i64 0]), .slice none 0 0, .int .i64 0], []⟩ 8 (by kernel_rfl) (by kernel_rfl) (by kernel_rfl) (by kernel_rfl))
    rfl (fun ds h => by match ds, h with | [_, _, _], _ => rfl) (by kernel_rfl) (by kernel_rfl) (by kernel_rfl) (of_decide_eq_true (by kernel_rfl)) ?_
  intro W base args ds ps hval hA _ hz
  have hp : (Try.f9).params.toList = [57, 22, 3] := by kernel_rfl
  rw [hp] at hA hz
  obtain ⟨v0, vs0, d0, ds0, p0, q0, hargs, rfl, rfl, h0, r0⟩ := ChangeShapes.trodAll_cons hA
  obtain ⟨v1, vs1, d1, ds1, p1, q1, rfl, rfl, rfl, h1, r1⟩ := ChangeShapes.trodAll_cons r0
  obtain ⟨v2, vs2, d2, ds2, p2, q2, rfl, rfl, rfl, h2, r2⟩ := ChangeShapes.trodAll_cons r1
  obtain ⟨rfl, rfl, rfl⟩ := ChangeShapes.trodAll_nil r2
  obtain rfl : args = #[v0, v1, v2] := by cases args; simp_all
  obtain ⟨z0, y0⟩ := weights_cons hz
  obtain ⟨z1, y1⟩ := weights_cons y0
  obtain ⟨z2, y2⟩ := weights_cons y1
  have k0 := hval 0 57 v0 (by kernel_rfl) rfl
  have k1 := hval 1 22 v1 (by kernel_rfl) rfl
  have k2 := hval 2 3 v2 (by kernel_rfl) rfl
  obtain ⟨h, rfl, wf⟩ := opens_hart.arg Try.underlying57 k0 h0 z0
  obtain ⟨l, hv, hb, hr⟩ := open_bytes Try.underlying22 Try.underlying5 (by kernel_rfl) (by kernel_rfl) k1 h1 z1
  obtain ⟨a, rfl, rfl, rfl, wa⟩ := ChangeShapes.open_int Try.underlying3 k2 h2
  exact walk h wf v1 l a W hv hb (by omega) (Fb.wf_i64 wa)
theorem proved : Rows.TransSameSaid :=
  OpenClaim.holds_of_wide 9 Try.f9 rfl rfl rfl rfl rfl rfl rfl ⟨rfl, rfl, rfl, rfl, rfl⟩ rfl rfl rfl rfl rfl (by kernel_rfl) Try.func9 (by kernel_rfl)
    (of_decide_eq_true (by kernel_rfl)) (by unfold Func.isWrapper; first | (rw [if_pos (by decide +kernel)]; kernel_rfl) | (rw [if_neg (by decide +kernel)]; exact ⟨rfl, rfl⟩))
    (fun os started H enc _ => lifted os started H enc)
#print axioms proved
end Go.Proofs.Ytlfnddmncbkjaab.TransSameLaw
