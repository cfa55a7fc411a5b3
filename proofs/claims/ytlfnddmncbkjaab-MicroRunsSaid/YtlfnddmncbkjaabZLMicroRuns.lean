/- MicroRuns: for every small steps, such as may not be among them, every hart, memory, own bytes and steps, the program does them, or tells that it can't be. No condition. -/
import Derived.Test.YtlfnddmncbkjaabZWRun8h
import Derived.Test.YtlfnddmncbkjaabZWSame7
import Derived.Test.YtlfnddmncbkjaabZWRun7h
import Derived.Test.YtlfnddmncbkjaabZOpenCache
import Derived.Test.YtlfnddmncbkjaabZMA
import Derived.Test.YtlfnddmncbkjaabZMB
namespace Go.Proofs.Ytlfnddmncbkjaab.RowB
set_option linter.unusedVariables false
set_option linter.unusedSimpArgs false
open Go.ChangeShapes Go.WideShapes Go.ChangeAt Go.RowKit Fb
section
variable {H : Type} {enc : TypeId × Value → H} {W : World}
theorem opens_micro : Opens enc Try.prog W 133 mlist (fun m => m.Ok) := by
  have h := opens_struct (enc := enc) (P := Try.prog) (W := W) (l := [(3, 1), (3, 1), (3, 1), (3, 1), (34, 1)]) Try.underlying133 (by kernel_rfl) (by kernel_rfl) (by kernel_rfl) (by kernel_rfl)
    (opensL_cons (opens_int Try.underlying3) (opensL_cons (opens_int Try.underlying3) (opensL_cons (opens_int Try.underlying3) (opensL_cons (opens_int Try.underlying3) (opensL_cons (opens_int Try.underlying34) opensL_nil)))))
  refine h.map (fun p => ⟨p.1, p.2.1, p.2.2.1, p.2.2.2.1, p.2.2.2.2.1⟩) ?_
  rintro ⟨a, b, c, d, e, u⟩ ⟨h1, h2, h3, h4, h5, _⟩
  exact ⟨rfl, ⟨wf_i64 h1, wf_i64 h2, wf_i64 h3, wf_i64 h4, wf_u32 h5⟩⟩
theorem opens_micros : Opens enc Try.prog W 51 (fun p : Value × List MicD => [p.1]) (fun p => Sl W p.1 5 p.2.length (p.2.flatMap mlist) ∧ (∀ i ∈ p.2, i.Ok)) := fun fuel cs d ps h hw => by
  obtain ⟨v, rfl, l, h1, h2, h3⟩ := opens_slice (enc := enc) (P := Try.prog) (W := W) Try.underlying51 (s := 5) (by kernel_rfl) (by omega) (fun _ _ => rfl) opens_micro fuel cs d ps h hw
  exact ⟨(v, l), rfl, h1, h2⟩
end
end Go.Proofs.Ytlfnddmncbkjaab.RowB
namespace Go.Proofs.Ytlfnddmncbkjaab.MicroRunsLaw
open Go.RowKit Fb W
def rD0 : RunD := ⟨hart0, [], [], 0, [], [0, 0, 0, 0], 0, false, false, 0, 0⟩
theorem didl_one8 {d : RunD} (a1 : Option Addr) (n1 c1 : Nat) (a2 : Option Addr) (n2 c2 : Nat) (a3 : Option Addr) (n3 c3 : Nat) : ∀ v ∈ (didl d (.slice a1 n1 c1) (.slice a2 n2 c2) (.slice a3 n3 c3)).toArray.toList, v.oneCell' = true := by
  intro v hv
  have hv' : v ∈ didl d (.slice a1 n1 c1) (.slice a2 n2 c2) (.slice a3 n3 c3) := by simpa using hv
  rcases List.mem_append.1 hv' with h1 | h1
  · exact hlist_one d.h v (by simpa [hcells] using h1)
  · simp only [List.mem_cons, List.not_mem_nil, or_false] at h1
    rcases h1 with rfl | rfl | rfl | rfl <;> rfl
theorem hart0_wf : hart0.Wf := ⟨rfl, by intro x hx; have := List.eq_of_mem_replicate hx; subst this; exact ⟨by decide, by decide⟩, ⟨by decide, by decide⟩, ⟨by decide, by decide⟩, ⟨by decide, by decide⟩, ⟨by decide, by decide⟩⟩
set_option maxRecDepth 100000 in
set_option maxHeartbeats 3200000 in
theorem walk (vc : Value) (code : List MicD) (h : Hart) (vm : Value) (m : List Int) (bf bt steps : Int) (w : World) (hc : Sl w vc 5 code.length (code.flatMap mlist)) (hok : ∀ x ∈ code, x.Ok) (wf : h.Wf) (hm : Ints .u8 w vm m) (hb : Bytes m) (hl : m.length ≤ 140737488351232) (h1 : U32 bf) (h2 : U32 bt) (hst : i64ok steps) :
    Calls Try.prog 10 #[vc, .agg (hcells h), vm, .agg #[.int .u32 bf, .int .u32 bt], .int .i64 steps] w fun e w' => e = .returned (.bool true) ∧ Below w.heap.size w w' := by
  obtain ⟨w1, hw1⟩ : ∃ w1, w1 = (w.alloc (.cells (hcells h) 57)).alloc (.cells #[.int .u32 bf, .int .u32 bt] 60) := ⟨_, rfl⟩
  have hb1 : Below w.heap.size w w1 := by rw [hw1]; exact (by repeat (first | with_reducible exact Below.refl _ _ | with_reducible refine below_drewN ?_ _ | ((with_reducible refine Below.setCell ?_ ?hq _); case hq => (first | (simp; done) | (simp; omega))) | ((with_reducible refine Below.alloc ?_ ?hq _); case hq => (first | (simp; done) | (simp; omega)))))
  have hs1 : w1.heap.size = w.heap.size + 2 := by rw [hw1]; simp
  have hat : At w1 w.heap.size 0 (hlist h) := by rw [hw1]; exact At.below (w := w.alloc (.cells (hcells h) 57)) (at_alloc w (hlist h) 57 (0, 0)) (by repeat (first | with_reducible exact Below.refl _ _ | with_reducible refine below_drewN ?_ _ | ((with_reducible refine Below.setCell ?_ ?hq _); case hq => (first | (simp; done) | (simp; omega))) | ((with_reducible refine Below.alloc ?_ ?hq _); case hq => (first | (simp; done) | (simp; omega)))))
  have q0 : w1.cell? ⟨w.heap.size + 1, 0, none⟩ = some (.int .u32 bf) := by rw [hw1]; go_cell
  have q1 : w1.cell? ⟨w.heap.size + 1, 1, none⟩ = some (.int .u32 bt) := by rw [hw1]; go_cell
  have hcsz : (Try.prog.info? 57).map (·.size) = some (hcells h).size := by rw [hcells_size wf]; kernel_rfl
  obtain ⟨ac, cc, rfl, -⟩ := hc.open (fun _ _ => rfl) (by omega)
  obtain ⟨am, cm, rfl, -⟩ := hm.open
  have HMA := Lib.hid (mmay_any (.slice ac code.length cc) code w1 (Sl.below hc hb1) hok)
  have HM7 := Lib.hid (fun W (hW : Below w1.heap.size w1 W) => may7_any (.slice ac code.length cc) code W (Sl.below (Sl.below hc hb1) hW) hok)
  have HWR := Lib.hid (fun W (hW : Below w1.heap.size w1 W) => wrong7_any (.slice ac code.length cc) code h (.slice am m.length cm) m steps W (Sl.below (Sl.below hc hb1) hW) hok wf ((hm.below hb1).below hW))
  obtain ⟨mb, hmb⟩ : ∃ mb, mb = mayL code := ⟨_, rfl⟩
  rw [← hmb] at HMA HM7
  have HW1 := Lib.hid hw1
  have HB1 := Lib.hid hb1
  have ls0 : w.heap.size < w1.heap.size := by omega
  have ls1 : w.heap.size + 1 < w1.heap.size := by omega
  cases hwr : wrong7 code h m steps with
  | true =>
    rw [hwr] at HWR
    obtain ⟨z, hz⟩ : ∃ z, z = (didl0 hart0 (.slice none 0 0)).toArray := ⟨_, rfl⟩
    have hz0 : z = #[.int .u32 0, .int .u32 0, .int .u32 0, .int .u32 0, .int .u32 0, .int .u32 0, .int .u32 0, .int .u32 0, .int .u32 0, .int .u32 0, .int .u32 0, .int .u32 0, .int .u32 0, .int .u32 0, .int .u32 0, .int .u32 0, .int .u32 0, .int .u32 0, .int .u32 0, .int .u32 0, .int .u32 0, .int .u32 0, .int .u32 0, .int .u32 0, .int .u32 0, .int .u32 0, .int .u32 0, .int .u32 0, .int .u32 0, .int .u32 0, .int .u32 0, .int .u32 0, .int .u32 0, .bool false, .int .u32 0, .int .i64 0, .int .i64 0, .slice none 0 0, .slice none 0 0, .int .i64 0, .slice none 0 0] := by rw [hz]; rfl
    have hzs : z.size = 41 := by rw [hz0]; rfl
    have HRN := Lib.hid (fun W (hW : Below w1.heap.size w1 W) => run8_no (.slice ac code.length cc) code h (.slice am m.length cm) m bf bt steps W (Sl.below (Sl.below hc hb1) hW) hok wf ((hm.below hb1).below hW) hwr)
    rw [← hz] at HRN
    have HSM := Lib.hid (fun W => same7_any rD0 (.slice none 0 0) (.slice none 0 0) (.slice none 0 0) (.slice none 0 0) (.slice none 0 0) (.slice none 0 0) W hart0_wf (by intro x hx; cases hx) (Sl.nil _ _) (Sl.nil _ _) (Sl.nil _ _) (Sl.nil _ _) (Sl.nil _ _) (Sl.nil _ _))
    have hzd : (didl rD0 (.slice none 0 0) (.slice none 0 0) (.slice none 0 0)).toArray = z := by rw [hz]; rfl
    rw [hzd] at HSM
    have HSM' : Hid (∀ W, Calls Try.prog 35 #[.agg z, .agg #[.int .u32 0, .int .u32 0, .int .u32 0, .int .u32 0, .int .u32 0, .int .u32 0, .int .u32 0, .int .u32 0, .int .u32 0, .int .u32 0, .int .u32 0, .int .u32 0, .int .u32 0, .int .u32 0, .int .u32 0, .int .u32 0, .int .u32 0, .int .u32 0, .int .u32 0, .int .u32 0, .int .u32 0, .int .u32 0, .int .u32 0, .int .u32 0, .int .u32 0, .int .u32 0, .int .u32 0, .int .u32 0, .int .u32 0, .int .u32 0, .int .u32 0, .int .u32 0, .int .u32 0, .bool false, .int .u32 0, .int .i64 0, .int .i64 0, .slice none 0 0, .slice none 0 0, .int .i64 0, .slice none 0 0]] W fun e w' => e = .returned (.bool true) ∧ Below W.heap.size W w') := Lib.hid (fun W => by have := HSM.out W; rw [hz0] at this ⊢; exact this)
    have hszz : (Try.prog.info? 64).map (·.size) = some z.size := by rw [hzs]; kernel_rfl
    have hzo : Hid (∀ v ∈ z.toList, v.oneCell' = true) := Lib.hid (by rw [← hzd]; exact didl_one8 none 0 0 none 0 0 none 0 0)
    have HZ0 := Lib.hid hz0
    clear hw1 hb1 hc hok wf hm hb hl h1 h2 hst hmb hwr hz hz0 hzd HSM
    go_enter Try.func10, Try.ntmps10
    go_upto_region 1 with (fail)
    show Code.wp _ _ _ _ ((w.alloc (.cells (hcells h) 57)).alloc (.cells #[.int .u32 bf, .int .u32 bt] 60))
    rw [← HW1.out]
    go_wp2_with fail
    refine HMA.out.mono ?_
    rintro e w2 ⟨rfl, hb2⟩
    have HB2 := Lib.hid hb2
    clear hb2
    go_wp2_with fail
    refine (HM7.out _ HB2.out).mono ?_
    rintro e w3 ⟨rfl, hb3⟩
    have HB3 : Hid (Below w1.heap.size w1 w3) := Lib.hid (HB2.out.trans (hb3.mono HB2.out.size))
    have hat3 := hat.below HB3.out
    have r0 := (HB3.out.cell (p := ⟨w.heap.size + 1, 0, none⟩) ls1).trans q0
    have r1 := (HB3.out.cell (p := ⟨w.heap.size + 1, 1, none⟩) ls1).trans q1
    clear hb3 q0 q1
    have HAT := Lib.hid hat
    clear hat
    go_wp2_with (first | (refine wpList_load_at rfl 57 _ rfl w.heap.size 0 rfl (hcells h) _ hat3 Try.underlying57 rfl hcsz ?_))
    refine (HRN.out _ HB3.out).mono ?_
    rintro e w4 ⟨rfl, hb4⟩
    have HB4 : Hid (Below w1.heap.size w1 w4) := Lib.hid (HB3.out.trans (hb4.mono HB3.out.size))
    obtain ⟨w5, hw5⟩ : ∃ w5, w5 = w4.alloc (.cells z 64) := ⟨_, rfl⟩
    have hb5 : Below w4.heap.size w4 w5 := by rw [hw5]; exact (by repeat (first | with_reducible exact Below.refl _ _ | with_reducible refine below_drewN ?_ _ | ((with_reducible refine Below.setCell ?_ ?hq _); case hq => (first | (simp; done) | (simp; omega))) | ((with_reducible refine Below.alloc ?_ ?hq _); case hq => (first | (simp; done) | (simp; omega)))))
    have hd5 : At w5 w4.heap.size 0 z.toList := by rw [hw5]; exact at_alloc w4 z.toList 64 (0, 0)
    have HB5 : Hid (Below w1.heap.size w1 w5) := Lib.hid (HB4.out.trans (hb5.mono HB4.out.size))
    have hat5 := HAT.out.below HB5.out
    have HW5 := Lib.hid hw5
    clear hb4 hb5 hw5 hat3 r0 r1
    go_upto_region 5 with (first | (refine wpList_store_new rfl 64 _ _ rfl w4 _ z rfl rfl rfl hszz (by rw [hzs]; rfl) hzo.out ?_))
    rw [← HW5.out]
    go_wp2_with (first | (refine wpList_load_at rfl 57 _ rfl w.heap.size 0 rfl (hcells h) _ hat5 Try.underlying57 rfl hcsz ?_))
    refine (HWR.out _ HB5.out).mono ?_
    rintro e w6 ⟨rfl, hb6⟩
    have hd6 := hd5.below hb6
    have HBF : Hid (Below w.heap.size w w6) := Lib.hid (HB1.out.trans ((HB5.out.trans (hb6.mono HB5.out.size)).mono HB1.out.size))
    clear hb6 hd5 hat5
    go_wp2_with (first | (refine wpList_load_g (by rfl) 64 _ rfl w4.heap.size 0 rfl z _ hd6 Try.underlying64 rfl hszz ?_))
    refine (HSM'.out _).mono ?_
    rintro e w7 ⟨rfl, hb7⟩
    go_wp2_with fail
    go_ret
    exact ⟨rfl, HBF.out.trans (hb7.mono HBF.out.size)⟩
  | false =>
    rw [hwr] at HWR
    obtain ⟨hmay, -⟩ := wrong7_no hwr
    have HRY := Lib.hid (fun W (hW : Below w1.heap.size w1 W) => run8_yes (.slice ac code.length cc) code h (.slice am m.length cm) m bf bt steps W (Sl.below (Sl.below hc hb1) hW) hok wf ((hm.below hb1).below hW) hb h1 h2 hwr)
    have HPY := Lib.hid (fun W (hW : Below w1.heap.size w1 W) => play7_any (.slice ac code.length cc) code h (.slice am m.length cm) m bf bt steps W (Sl.below (Sl.below hc hb1) hW) hmay hok wf ((hm.below hb1).below hW) hb hl h1 h2 hst)
    obtain ⟨pl, hpl⟩ : ∃ pl, pl = playR code h m bf bt steps := ⟨_, rfl⟩
    rw [← hpl] at HRY HPY
    clear hw1 hb1 hc hok wf hm hb hl h1 h2 hst hmb hwr hpl hmay
    go_enter Try.func10, Try.ntmps10
    go_upto_region 1 with (fail)
    show Code.wp _ _ _ _ ((w.alloc (.cells (hcells h) 57)).alloc (.cells #[.int .u32 bf, .int .u32 bt] 60))
    rw [← HW1.out]
    go_wp2_with fail
    refine HMA.out.mono ?_
    rintro e w2 ⟨rfl, hb2⟩
    have HB2 := Lib.hid hb2
    clear hb2
    go_wp2_with fail
    refine (HM7.out _ HB2.out).mono ?_
    rintro e w3 ⟨rfl, hb3⟩
    have HB3 : Hid (Below w1.heap.size w1 w3) := Lib.hid (HB2.out.trans (hb3.mono HB2.out.size))
    have hat3 := hat.below HB3.out
    have HQ0 := Lib.hid q0
    have HQ1 := Lib.hid q1
    have r0 := (HB3.out.cell (p := ⟨w.heap.size + 1, 0, none⟩) ls1).trans q0
    have r1 := (HB3.out.cell (p := ⟨w.heap.size + 1, 1, none⟩) ls1).trans q1
    clear hb3 q0 q1
    have HAT := Lib.hid hat
    clear hat
    go_wp2_with (first | (refine wpList_load_at rfl 57 _ rfl w.heap.size 0 rfl (hcells h) _ hat3 Try.underlying57 rfl hcsz ?_))
    refine (HRY.out _ HB3.out).mono ?_
    rintro e w4 ⟨⟨vm', vo', vs', rfl, im, io, is, wfd, bd⟩, hb4⟩
    obtain ⟨a1, c1, rfl, -⟩ := im.open
    obtain ⟨a2, c2, rfl, -⟩ := io.open
    obtain ⟨a3, c3, rfl, -⟩ : ∃ a c, vs' = .slice a pl.stores.length c ∧ True := by
      obtain ⟨_, ao, cap, e, -⟩ := is
      exact ⟨ao, cap, e, trivial⟩
    have HB4 : Hid (Below w1.heap.size w1 w4) := Lib.hid (HB3.out.trans (hb4.mono HB3.out.size))
    obtain ⟨z, hz⟩ : ∃ z, z = (didl pl (.slice a1 pl.m.length c1) (.slice a2 pl.out.length c2) (.slice a3 pl.stores.length c3)).toArray := ⟨_, rfl⟩
    have hzs : z.size = 41 := by rw [hz]; exact didl_size wfd.len
    have hszz : (Try.prog.info? 64).map (·.size) = some z.size := by rw [hzs]; kernel_rfl
    have hzo : Hid (∀ v ∈ z.toList, v.oneCell' = true) := Lib.hid (by rw [hz]; exact didl_one8 _ _ _ _ _ _ _ _ _)
    obtain ⟨w5, hw5⟩ : ∃ w5, w5 = w4.alloc (.cells z 64) := ⟨_, rfl⟩
    have hb5 : Below w4.heap.size w4 w5 := by rw [hw5]; exact (by repeat (first | with_reducible exact Below.refl _ _ | with_reducible refine below_drewN ?_ _ | ((with_reducible refine Below.setCell ?_ ?hq _); case hq => (first | (simp; done) | (simp; omega))) | ((with_reducible refine Below.alloc ?_ ?hq _); case hq => (first | (simp; done) | (simp; omega)))))
    have hd5 : At w5 w4.heap.size 0 z.toList := by rw [hw5]; exact at_alloc w4 z.toList 64 (0, 0)
    have HB5 : Hid (Below w1.heap.size w1 w5) := Lib.hid (HB4.out.trans (hb5.mono HB4.out.size))
    have hat5 := HAT.out.below HB5.out
    have HI5 := Lib.hid (And.intro (im.below hb5) (And.intro (io.below hb5) (Sl.below is hb5)))
    have HWD := Lib.hid (And.intro wfd bd)
    have HZ := Lib.hid hz
    have HW5 := Lib.hid hw5
    have hl5 : w4.heap.size < w5.heap.size := by rw [hw5]; simp
    clear hb4 hb5 hw5 hat3 r0 r1 im io is wfd bd
    rw [← hz]
    clear hz
    go_upto_region 5 with (first | (refine wpList_store_new rfl 64 _ _ rfl w4 _ z rfl rfl rfl hszz (by rw [hzs]; rfl) hzo.out ?_))
    rw [← HW5.out]
    go_wp2_with (first | (refine wpList_load_at rfl 57 _ rfl w.heap.size 0 rfl (hcells h) _ hat5 Try.underlying57 rfl hcsz ?_))
    refine (HWR.out _ HB5.out).mono ?_
    rintro e w6 ⟨rfl, hb6⟩
    have HB6 : Hid (Below w1.heap.size w1 w6) := Lib.hid (HB5.out.trans (hb6.mono HB5.out.size))
    have HB56 := Lib.hid hb6
    have hat6 := HAT.out.below HB6.out
    have r0 := (HB6.out.cell (p := ⟨w.heap.size + 1, 0, none⟩) ls1).trans HQ0.out
    have r1 := (HB6.out.cell (p := ⟨w.heap.size + 1, 1, none⟩) ls1).trans HQ1.out
    have HD5 := Lib.hid hd5
    clear hb6 hd5 hat5
    go_wp2_with (first | (refine wpList_load_at rfl 57 _ rfl w.heap.size 0 rfl (hcells h) _ hat6 Try.underlying57 rfl hcsz ?_))
    refine (HPY.out _ HB6.out).mono ?_
    rintro e w7 ⟨⟨vm2, vo2, vs2, rfl, jm, jo, js⟩, hb7⟩
    obtain ⟨b1, d1, rfl, -⟩ := jm.open
    obtain ⟨b2, d2, rfl, -⟩ := jo.open
    obtain ⟨b3, d3, rfl, -⟩ : ∃ a c, vs2 = .slice a pl.stores.length c ∧ True := by
      obtain ⟨_, ao, cap, e, -⟩ := js
      exact ⟨ao, cap, e, trivial⟩
    obtain ⟨y, hy⟩ : ∃ y, y = (didl pl (.slice b1 pl.m.length d1) (.slice b2 pl.out.length d2) (.slice b3 pl.stores.length d3)).toArray := ⟨_, rfl⟩
    have hys : y.size = 41 := by rw [hy]; exact didl_size HWD.out.1.len
    have hszy : (Try.prog.info? 64).map (·.size) = some y.size := by rw [hys]; kernel_rfl
    have hyo : Hid (∀ v ∈ y.toList, v.oneCell' = true) := Lib.hid (by rw [hy]; exact didl_one8 _ _ _ _ _ _ _ _ _)
    obtain ⟨w8, hw8⟩ : ∃ w8, w8 = w7.alloc (.cells y 64) := ⟨_, rfl⟩
    have hb8 : Below w7.heap.size w7 w8 := by rw [hw8]; exact (by repeat (first | with_reducible exact Below.refl _ _ | with_reducible refine below_drewN ?_ _ | ((with_reducible refine Below.setCell ?_ ?hq _); case hq => (first | (simp; done) | (simp; omega))) | ((with_reducible refine Below.alloc ?_ ?hq _); case hq => (first | (simp; done) | (simp; omega)))))
    have hb58 : Below w5.heap.size w5 w8 := (HB56.out.trans (hb7.mono HB56.out.size)).trans (hb8.mono (by have := HB56.out.size; have := hb7.size; omega))
    have hd8 : At w8 w4.heap.size 0 z.toList := HD5.out.below hb58
    have he8 : At w8 w7.heap.size 0 y.toList := by rw [hw8]; exact at_alloc w7 y.toList 64 (0, 0)
    have HBF : Hid (Below w.heap.size w w8) := Lib.hid (HB1.out.trans ((HB5.out.trans (hb58.mono HB5.out.size)).mono HB1.out.size))
    have HSM := Lib.hid (same7_any pl _ _ _ _ _ _ w8 HWD.out.1 HWD.out.2 (HI5.out.1.below hb58) (jm.below hb8) (HI5.out.2.1.below hb58) (jo.below hb8) (Sl.below HI5.out.2.2 hb58) (Sl.below js hb8))
    rw [← HZ.out, ← hy] at HSM
    have HW8 := Lib.hid hw8
    rw [← hy]
    clear hb7 hw8 hb8 hb58 hat6 r0 r1 jm jo js hy
    go_upto_region 8 with (first | (refine wpList_store_new rfl 64 _ _ rfl w7 _ y rfl rfl rfl hszy (by rw [hys]; rfl) hyo.out ?_))
    rw [← HW8.out]
    go_wp2_with (first | (refine wpList_load_g (by rfl) 64 _ rfl w4.heap.size 0 rfl z _ hd8 Try.underlying64 rfl hszz ?_) | (refine wpList_load_g (by rfl) 64 _ rfl w7.heap.size 0 rfl y _ he8 Try.underlying64 rfl hszy ?_))
    refine HSM.out.mono ?_
    rintro e w9 ⟨rfl, hb9⟩
    go_wp2_with fail
    go_ret
    exact ⟨rfl, HBF.out.trans (hb9.mono HBF.out.size)⟩
open RowB in
set_option maxRecDepth 100000 in
set_option maxHeartbeats 1600000 in
theorem lifted (os : Os) (started : os.Started) (H : Type) (enc : TypeId × Value → H) :
    ReturnsInHanded {} Try.checked os 10 .any (Rows.microRunsSpec.pre6 enc Try.prog Try.f10 Rows.microRunsRow.domain false) (Rows.microRunsSpec.post enc Try.prog Try.f10 false true false false) := by
  refine RowB.law_lifted (C := Try.checked) (tb := 4) (by kernel_rfl) started (by kernel_rfl) (by kernel_rfl)
    (ChangeSpec.witness6 (enc := enc) (C := Try.checked) false ⟨#[], #[.slice none 0 0, .agg (Array.replicate 32 (.int .u32 0) ++ #[.int .u32 0, .bool false, .int .u32 0, .int .i64 0, .int .i64 0]), .slice none 0 0, .agg #[.int .u32 0, .int .u32 0], .int .i64 0], []⟩ 8 (by kernel_rfl) (by kernel_rfl) (by kernel_rfl) (by kernel_rfl))
    rfl (fun ds h => by match ds, h with | [_, _, _, _, _], _ => rfl) (by kernel_rfl) (by kernel_rfl) (by kernel_rfl) (of_decide_eq_true (by kernel_rfl)) ?_
  intro W base args ds ps hval hA _ hz
  have hp : (Try.f10).params.toList = [51, 57, 22, 60, 3] := by kernel_rfl
  rw [hp] at hA hz
  obtain ⟨v0, vs0, d0, ds0, p0, q0, hargs, rfl, rfl, h0, r0⟩ := ChangeShapes.trodAll_cons hA
  obtain ⟨v1, vs1, d1, ds1, p1, q1, rfl, rfl, rfl, h1, r1⟩ := ChangeShapes.trodAll_cons r0
  obtain ⟨v2, vs2, d2, ds2, p2, q2, rfl, rfl, rfl, h2, r2⟩ := ChangeShapes.trodAll_cons r1
  obtain ⟨v3, vs3, d3, ds3, p3, q3, rfl, rfl, rfl, h3, r3⟩ := ChangeShapes.trodAll_cons r2
  obtain ⟨v4, vs4, d4, ds4, p4, q4, rfl, rfl, rfl, h4, r4⟩ := ChangeShapes.trodAll_cons r3
  obtain ⟨rfl, rfl, rfl⟩ := ChangeShapes.trodAll_nil r4
  obtain rfl : args = #[v0, v1, v2, v3, v4] := by cases args; simp_all
  obtain ⟨z0, y0⟩ := weights_cons hz
  obtain ⟨z1, y1⟩ := weights_cons y0
  obtain ⟨z2, y2⟩ := weights_cons y1
  obtain ⟨z3, y3⟩ := weights_cons y2
  obtain ⟨z4, y4⟩ := weights_cons y3
  have k0 := hval 0 51 v0 (by kernel_rfl) rfl
  have k1 := hval 1 57 v1 (by kernel_rfl) rfl
  have k2 := hval 2 22 v2 (by kernel_rfl) rfl
  have k3 := hval 3 60 v3 (by kernel_rfl) rfl
  have k4 := hval 4 3 v4 (by kernel_rfl) rfl
  obtain ⟨⟨vc, code⟩, rfl, hc, hok⟩ := opens_micros.argSlice (g := fun p : Value × List MicD => p.1) Try.underlying51 k0 h0 z0
  obtain ⟨h, rfl, wf⟩ := opens_hart.arg Try.underlying57 k1 h1 z1
  obtain ⟨l, hv, hb, hr⟩ := open_bytes Try.underlying22 Try.underlying5 (by kernel_rfl) (by kernel_rfl) k2 h2 z2
  obtain ⟨⟨bf, bt⟩, rfl, wb⟩ := opens_range.arg Try.underlying60 k3 h3 z3
  obtain ⟨a, rfl, rfl, rfl, wa⟩ := ChangeShapes.open_int Try.underlying3 k4 h4
  exact walk _ code h v2 l bf bt a W hc hok wf hv hb (by omega) wb.1 wb.2 (Fb.wf_i64 wa)
/-- THE STATEMENT -/
theorem proved : Rows.MicroRunsSaid :=
  OpenClaim.holds_of_wide 10 Try.f10 rfl rfl rfl rfl rfl rfl rfl ⟨rfl, rfl, rfl, rfl, rfl⟩ rfl rfl rfl rfl rfl (by kernel_rfl) Try.func10 (by kernel_rfl)
    (of_decide_eq_true (by kernel_rfl)) (by unfold Func.isWrapper; first | (rw [if_pos (by decide +kernel)]; kernel_rfl) | (rw [if_neg (by decide +kernel)]; exact ⟨rfl, rfl⟩))
    (fun os started H enc _ => lifted os started H enc)
#print axioms proved
end Go.Proofs.Ytlfnddmncbkjaab.MicroRunsLaw
